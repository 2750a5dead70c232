/- For any two lists of cells, near or far, and any number the law SweepCopies answers true: a root copied into the arena of the other set has its cells there, and is the root that building it there gives; what is not there is told; with little room it fits, or the budget is told to be spent. No condition. -/
import Derived.Test.YtbkbkgfpnefilaaMSh
import Derived.Test.YtbkbkgfpnefilaaMCo
import Derived.Test.YtbkbkgfpnefilaaRow
namespace Go.Proofs.Ytbkbkgfpnefilaa.tr
open Go.RowKit Go.Proofs.Ytbkbkgfpnefilaa.PTreeBuilds Go.Proofs.YtbkbkgfpnefilaaW.PrintWords Go.Proofs.YtbkbkgfpnefilaaW.PrintLast Go.Proofs.YtbkbkgfpnefilaaW.PrintMore Go.Proofs.Ytbkbkgfpnefilaa.bs Go.ChangeShapes Go.Proofs.Ytbkbkgfpnefilaa.lb Go.Proofs.Ytbkbkgfpnefilaa.ar Go.Maps

theorem wide_walk (raw : List Rc) (A : Option Addr) (c : Nat) (w : World) (hC : Kd.C k30 w A raw.length raw) (hc : raw.length ≤ c) :
    Calls Try.prog 22 #[.slice A raw.length c] w fun e w' => ∃ A' c', e = .returned (.slice A' (wideR raw).length c') ∧ (wideR raw).length ≤ c' ∧ Kd.C k30 w' A' (wideR raw).length (wideR raw) ∧ Below w.heap.size w w' := by
  refine (honeycomblaw13_Wide.calls 4000 A c raw (wideR raw) w hC hc (wide_val raw 4000 (by omega))).mono fun e w' ⟨v, he, hr, hb⟩ => ?_
  obtain ⟨A', c', hv, hc', hC'⟩ := Kd.R_reads hr
  exact ⟨A', c', by rw [he, hv], hc', hC', hb⟩
theorem are_walk (l : List Cl) (m : List Rc) (hm : m.length ≤ 1000000) (A B : Option Addr) (c d : Nat) (w : World) (hl : Kd.C k57 w A l.length l) (hc : l.length ≤ c) (hM : Kd.C k30 w B m.length m) (hd : m.length ≤ d) :
    Calls Try.prog 28 #[.slice A l.length c, .slice B m.length d] w fun e w' => e = .returned (.int .i64 (if l = m.map ownC then 0 else -1)) ∧ Below w.heap.size w w' :=
  honeycomblaw04_Are.calls (m.length + 1) A c l B d m _ w hl hc hM hd (are_val l m hm _ (by omega))
set_option maxRecDepth 100000 in
set_option maxHeartbeats 4000000 in
theorem shares_walk (raw other : List Rc) (rA oA : Option Addr) (rc oc : Nat) (w : World) (hR : Kd.C k30 w rA raw.length raw) (hrc : raw.length ≤ rc) (hO : Kd.C k30 w oA other.length other) (hoc : other.length ≤ oc) :
    Calls Try.prog 4 #[.slice rA raw.length rc, .slice oA other.length oc] w fun e w' => e = .returned (.bool true) ∧ Below w.heap.size w w' := by
  have hws := fun (w' : World) (hb : Below w.heap.size w w') => wide_walk raw rA rc w' (Kd.C_below hR hb) hrc
  have hwt := fun (w' : World) (hb : Below w.heap.size w w') => wide_walk other oA oc w' (Kd.C_below hO hb) hoc
  have hns := wide_near raw
  have hnt := wide_near other
  obtain ⟨s, hs⟩ : ∃ s, wideR raw = s := ⟨_, rfl⟩
  obtain ⟨t, ht⟩ : ∃ t, wideR other = t := ⟨_, rfl⟩
  simp only [hs] at hws hns
  simp only [ht] at hwt hnt
  have HWS := Aside0.mk hws
  have HWT := Aside0.mk hwt
  have HX := Aside0.mk (show rootQ (s.map ownC) = rootQ (t.map ownC) → s.map ownC = t.map ownC from hns.same hnt)
  have HOS := Aside0.mk (fun A c w h1 h2 => own_near hns A c w h1 h2)
  have HOT := Aside0.mk (fun A c w h1 h2 => own_near hnt A c w h1 h2)
  have HMK := Aside0.mk (fun A c w h1 h2 => (make_near (A := A) (c := c) (w := w) h1 h2 hns.len hns.bd).mono (fun _ _ h => make_roomy (by rw [List.length_map]; exact hns.len) h))
  have HBS := Aside0.mk (fun (w0 w : World) (F : Nat → Prop) (p N : Nat) (nodes : List Nd) (empty : List Int) (A : Option Addr) (c : Nat) (h : Roomy w0 w F p nodes empty N) (hN : N ≤ 200000) (hC : Kd.C k57 w A (s.map ownC).length (s.map ownC)) (hb : Below w0.heap.size w0 w) => build_roomy h hN hns A c hC hb)
  have HBT := Aside0.mk (fun (w0 w : World) (F : Nat → Prop) (p N : Nat) (nodes : List Nd) (empty : List Int) (A : Option Addr) (c : Nat) (h : Roomy w0 w F p nodes empty N) (hN : N ≤ 200000) (hC : Kd.C k57 w A (t.map ownC).length (t.map ownC)) (hb : Below w0.heap.size w0 w) => build_roomy h hN hnt A c hC hb)
  have HCS := Aside0.mk (fun (w0 w : World) (F : Nat → Prop) (p N : Nat) (nodes : List Nd) (empty : List Int) (i : Nat) (h : Roomy w0 w F p nodes empty N) (hN : N ≤ 200000) (hr : Rep nodes (rootQ (s.map ownC)) i) => cells_roomy h hN hns hr 100 (by omega))
  have HCT := Aside0.mk (fun (w0 w : World) (F : Nat → Prop) (p N : Nat) (nodes : List Nd) (empty : List Int) (i : Nat) (h : Roomy w0 w F p nodes empty N) (hN : N ≤ 200000) (hr : Rep nodes (rootQ (t.map ownC)) i) => cells_roomy h hN hnt hr 100 (by omega))
  have HAS := Aside0.mk (fun A B c d w h1 h2 h3 h4 => are_walk (s.map ownC) s (by have := hns.len; omega) A B c d w h1 h2 h3 h4)
  have HAT := Aside0.mk (fun A B c d w h1 h2 h3 h4 => are_walk (t.map ownC) t (by have := hnt.len; omega) A B c d w h1 h2 h3 h4)
  have HAX := Aside0.mk (fun A B c d w h1 h2 h3 h4 => are_walk (s.map ownC) t (by have := hnt.len; omega) A B c d w h1 h2 h3 h4)
  simp only [if_true] at HAS HAT
  generalize s.map ownC = S at *
  generalize t.map ownC = T at *
  generalize raw.length = rn at *
  generalize other.length = on at *
  clear hs ht hws hwt hns hnt hR hO hrc hoc
  go_enter Try.func4, Try.ntmps4
  go_upto_region 4 with (first
    | (go_at_call 15; refine (awake_walk _).mono ?_; rintro e w1 ⟨rfl, hb1⟩; have HB1 := Aside0.mk hb1; clear hb1)
    | (go_at_call 22; with_reducible refine (HWS.out _ HB1.out).mono ?_; rintro e w2 ⟨sA, sc, rfl, hsc, hsC, hb2⟩; have HB2 := Aside0.mk (chain HB1.out hb2 HB1.out.size); have HSC := Aside0.mk hsC; have HSc := Aside0.mk hsc; clear hsc hsC hb2)
    | (go_at_call 22; with_reducible refine (HWT.out _ HB2.out).mono ?_; rintro e w3 ⟨tA, tc, rfl, htc, htC, hb3⟩; have HB3 := Aside0.mk (chain HB2.out hb3 HB2.out.size); have HSC3 := Aside0.mk (Kd.C_below HSC.out hb3); have HTC := Aside0.mk htC; have HTc := Aside0.mk htc; clear htc htC hb3))
  go_upto_region 9 with (first
    | (go_at_call 23; with_reducible refine (HMK.out _ _ _ HSC3.out HSc.out).mono ?_; rintro e w4 ⟨p, F4, nodes4, empty4, x, rfl, hr4, hx4, hb4⟩; have HR4 := Aside0.mk hr4; have HX4 := Aside0.mk hx4; have HB4 := Aside0.mk hb4; clear hr4 hx4 hb4)
    | (go_at_call 25; with_reducible refine (HOT.out _ _ _ (Kd.C_below HTC.out HB4.out) HTc.out).mono ?_; rintro e w5 ⟨yA, yc, rfl, hyc, hyC, hb5⟩; have HR5 := Aside0.mk (HR4.out.below hb5); have HYC := Aside0.mk hyC; have HB5 := Aside0.mk (chain HB4.out hb5 HB4.out.size); clear hyc hyC hb5)
    | (go_at_call 24; with_reducible refine (HBT.out _ _ _ _ _ _ _ _ _ HR5.out (by omega) HYC.out HB5.out).mono ?_; rintro e w6 ⟨F6, nodes6, empty6, y, rfl, hr6, ho6, hy6, hh6, hb6⟩; have HR6 := Aside0.mk hr6; have HY6 := Aside0.mk hy6; have HX6 := Aside0.mk (ho6 _ _ HX4.out); have HB6 := Aside0.mk hb6; clear hr6 ho6 hy6 hh6 hb6)
    | (go_at_call 25; with_reducible refine (HOS.out _ _ _ (Kd.C_below HSC3.out HB6.out) HSc.out).mono ?_; rintro e w7 ⟨zA, zc, rfl, hzc, hzC, hb7⟩; have HR7 := Aside0.mk (HR6.out.below hb7); have HZC := Aside0.mk hzC; have HB7 := Aside0.mk (chain HB6.out hb7 HB6.out.size); clear hzc hzC hb7)
    | (go_at_call 24; with_reducible refine (HBS.out _ _ _ _ _ _ _ _ _ HR7.out (by omega) HZC.out HB7.out).mono ?_; rintro e w8 ⟨F8, nodes8, empty8, z, rfl, hr8, ho8, hz8, hh8, hb8⟩; have HN8 := Aside0.mk (hh8 ⟨_, HX6.out⟩); have HR8 := Aside0.mk hr8; have HZ8 := Aside0.mk hz8; have HB8 := Aside0.mk hb8; clear hr8 ho8 hz8 hh8 hb8))
  obtain rfl : nodes8 = nodes6 := HN8.out
  obtain rfl : z = x := Rep.same HR8.out.tr.once HZ8.out HX6.out
  clear HN8 HX6 HX4 HR4 HR5 HR6 HR7 HB4 HB5 HB6 HB7 HYC HZC HMK
  go_upto_region 13 with (first
    | (go_at_call 26; refine (alen_walk F8 p nodes8 empty8 1048576 _ HR8.out.tr.hold.ar).mono ?_; rintro e w9 ⟨rfl, rfl⟩)
    | (go_at_call 25; with_reducible refine (HOT.out _ _ _ (Kd.C_below HTC.out HB8.out) HTc.out).mono ?_; rintro e w10 ⟨yA, yc, rfl, hyc, hyC, hb10⟩; have HR10 := Aside0.mk (HR8.out.below hb10); have HYC := Aside0.mk hyC; have HB10 := Aside0.mk (chain HB8.out hb10 HB8.out.size); clear hyc hyC hb10)
    | (go_at_call 24; with_reducible refine (HBT.out _ _ _ _ _ _ _ _ _ HR10.out (by omega) HYC.out HB10.out).mono ?_; rintro e w11 ⟨F11, nodes11, empty11, v, rfl, hr11, ho11, hv11, hh11, hb11⟩; obtain rfl : nodes11 = nodes8 := hh11 ⟨_, HY6.out⟩; obtain rfl : v = y := Rep.same hr11.tr.once hv11 HY6.out; have HR11 := Aside0.mk hr11; have HB11 := Aside0.mk hb11; clear hr11 ho11 hv11 hh11 hb11)
    | (go_at_call 27; with_reducible refine (HCS.out _ _ _ _ _ _ _ _ HR11.out (by omega) HZ8.out).mono ?_; rintro e w12 ⟨oneA, onec, rfl, honec, hone, hb12⟩; have HR12 := Aside0.mk (HR11.out.below hb12); have HB12 := Aside0.mk (chain HB11.out hb12 HB11.out.size); have HONE := Aside0.mk hone; have HONEc := Aside0.mk honec; clear honec hone hb12)
    | (go_at_call 27; with_reducible refine (HCT.out _ _ _ _ _ _ _ _ HR12.out (by omega) HY6.out).mono ?_; rintro e w13 ⟨twoA, twoc, rfl, htwoc, htwo, hb13⟩; have HR13 := Aside0.mk (HR12.out.below hb13); have HB13 := Aside0.mk (chain HB12.out hb13 HB12.out.size); have HONE13 := Aside0.mk (Kd.C_below HONE.out hb13); have HTWO := Aside0.mk htwo; have HTWOc := Aside0.mk htwoc; clear htwoc htwo hb13))
  clear HBS HBT HCS HCT HOT HWS HWT HR8 HR10 HR11 HR12 HB8 HB10 HB11 HB12 HYC
  by_cases hxy : z = v
  · subst hxy
    have hST : S = T := HX.out (Rep.one HZ8.out HY6.out)
    subst hST
    simp only [if_true] at HAX
    clear HX HZ8 HY6
    go_wp2_with (first
      | (go_at_call 26; refine (alen_walk F11 p nodes11 empty11 1048576 _ HR13.out.tr.hold.ar).mono ?_; rintro e w14 ⟨rfl, rfl⟩)
      | (go_at_call 25; with_reducible refine (HOS.out _ _ _ (Kd.C_below HSC3.out HB13.out) HSc.out).mono ?_; rintro e w15 ⟨yA, yc, rfl, hyc, hyC, hb15⟩; have HB15 := Aside0.mk (chain HB13.out hb15 HB13.out.size); have HONE15 := Aside0.mk (Kd.C_below HONE13.out hb15); have HTWO15 := Aside0.mk (Kd.C_below HTWO.out hb15); have HYC := Aside0.mk hyC; have HYc := Aside0.mk hyc; clear hyc hyC hb15)
      | (go_at_call 28; with_reducible refine (HAX.out _ _ _ _ _ HYC.out HYc.out (Kd.C_below HTC.out HB15.out) HTc.out).mono ?_; rintro e w16 ⟨rfl, hb16⟩; have HB16 := Aside0.mk (chain HB15.out hb16 HB15.out.size); have HONE16 := Aside0.mk (Kd.C_below HONE15.out hb16); have HTWO16 := Aside0.mk (Kd.C_below HTWO15.out hb16); clear hb16 HYC)
      | (go_at_call 28; with_reducible refine (HAS.out _ _ _ _ _ HONE16.out HONEc.out (Kd.C_below HSC3.out HB16.out) HSc.out).mono ?_; rintro e w17 ⟨rfl, hb17⟩; have HB17 := Aside0.mk (chain HB16.out hb17 HB16.out.size); have HTWO17 := Aside0.mk (Kd.C_below HTWO16.out hb17); clear hb17 HONE16)
      | (go_at_call 28; with_reducible refine (HAT.out _ _ _ _ _ HTWO17.out HTWOc.out (Kd.C_below HTC.out HB17.out) HTc.out).mono ?_; rintro e w18 ⟨rfl, hb18⟩; have HB18 := Aside0.mk (chain HB17.out hb18 HB17.out.size); clear hb18))
    refine bodyPost_ret (v := .bool true) (by simp [results, Try.results4, go_sem]) rfl ?_
    exact ⟨rfl, chain HB3.out HB18.out HB3.out.size⟩
  · have hST : ¬ S = T := fun h => hxy (by subst h; exact Rep.same HR13.out.tr.once HZ8.out HY6.out)
    simp only [if_neg hST] at HAX
    have hne : ((z : Int) == (v : Int)) = false := by rw [beq_eq_false_iff_ne]; omega
    clear HX HZ8 HY6 hxy hST
    go_wp2_with (first
      | (go_at_call 26; refine (alen_walk F11 p nodes11 empty11 1048576 _ HR13.out.tr.hold.ar).mono ?_; rintro e w14 ⟨rfl, rfl⟩)
      | (go_at_call 25; with_reducible refine (HOS.out _ _ _ (Kd.C_below HSC3.out HB13.out) HSc.out).mono ?_; rintro e w15 ⟨yA, yc, rfl, hyc, hyC, hb15⟩; have HB15 := Aside0.mk (chain HB13.out hb15 HB13.out.size); have HONE15 := Aside0.mk (Kd.C_below HONE13.out hb15); have HTWO15 := Aside0.mk (Kd.C_below HTWO.out hb15); have HYC := Aside0.mk hyC; have HYc := Aside0.mk hyc; clear hyc hyC hb15)
      | (go_at_call 28; with_reducible refine (HAX.out _ _ _ _ _ HYC.out HYc.out (Kd.C_below HTC.out HB15.out) HTc.out).mono ?_; rintro e w16 ⟨rfl, hb16⟩; have HB16 := Aside0.mk (chain HB15.out hb16 HB15.out.size); have HONE16 := Aside0.mk (Kd.C_below HONE15.out hb16); have HTWO16 := Aside0.mk (Kd.C_below HTWO15.out hb16); clear hb16 HYC)
      | (go_at_call 28; with_reducible refine (HAS.out _ _ _ _ _ HONE16.out HONEc.out (Kd.C_below HSC3.out HB16.out) HSc.out).mono ?_; rintro e w17 ⟨rfl, hb17⟩; have HB17 := Aside0.mk (chain HB16.out hb17 HB16.out.size); have HTWO17 := Aside0.mk (Kd.C_below HTWO16.out hb17); clear hb17 HONE16)
      | (go_at_call 28; with_reducible refine (HAT.out _ _ _ _ _ HTWO17.out HTWOc.out (Kd.C_below HTC.out HB17.out) HTc.out).mono ?_; rintro e w18 ⟨rfl, hb18⟩; have HB18 := Aside0.mk (chain HB17.out hb18 HB17.out.size); clear hb18))
    refine bodyPost_ret (v := .bool true) (by simp [results, Try.results4, go_sem]) rfl ?_
    exact ⟨rfl, chain HB3.out HB18.out HB3.out.size⟩
theorem shares_law (rA oA : Option Addr) (rn rc on oc : Nat) (raw other : List Rc) (w : World) (hrl : raw.length = rn) (hR : Kd.C k30 w rA rn raw) (hrc : rn ≤ rc) (hol : other.length = on) (hO : Kd.C k30 w oA on other) (hoc : on ≤ oc) :
    Calls Try.prog 4 #[.slice rA rn rc, .slice oA on oc] w fun e w' => e = .returned (.bool true) ∧ Below w.heap.size w w' := by
  subst hrl hol
  exact shares_walk raw other rA oA rc oc w hR hrc hO hoc
end Go.Proofs.Ytbkbkgfpnefilaa.tr
namespace Go.Proofs.Ytbkbkgfpnefilaa.tr
open Go.RowKit Go.Proofs.Ytbkbkgfpnefilaa.PTreeBuilds Go.Proofs.YtbkbkgfpnefilaaW.PrintWords Go.Proofs.YtbkbkgfpnefilaaW.PrintLast Go.Proofs.YtbkbkgfpnefilaaW.PrintMore Go.Proofs.Ytbkbkgfpnefilaa.bs Go.ChangeShapes Go.Proofs.Ytbkbkgfpnefilaa.lb Go.Proofs.Ytbkbkgfpnefilaa.ar Go.Maps

set_option maxRecDepth 100000 in
set_option maxHeartbeats 4000000 in
theorem copies_walk (i : Int) (hi : 0 ≤ i ∧ i < 4294967296) (raw other : List Rc) (rA oA : Option Addr) (rc oc : Nat) (w : World) (hR : Kd.C k30 w rA raw.length raw) (hrc : raw.length ≤ rc) (hO : Kd.C k30 w oA other.length other) (hoc : other.length ≤ oc) :
    Calls Try.prog 9 #[.slice rA raw.length rc, .slice oA other.length oc, .int .u32 i] w fun e w' => e = .returned (.bool true) ∧ Below w.heap.size w w' := by
  have hws := fun (w' : World) (hb : Below w.heap.size w w') => wide_walk raw rA rc w' (Kd.C_below hR hb) hrc
  have hwt := fun (w' : World) (hb : Below w.heap.size w w') => wide_walk other oA oc w' (Kd.C_below hO hb) hoc
  have hns := wide_near raw
  have hnt := wide_near other
  obtain ⟨s, hs⟩ : ∃ s, wideR raw = s := ⟨_, rfl⟩
  obtain ⟨t, ht⟩ : ∃ t, wideR other = t := ⟨_, rfl⟩
  simp only [hs] at hws hns
  simp only [ht] at hwt hnt
  have HWS := Aside0.mk hws
  have HWT := Aside0.mk hwt
  have HOS := Aside0.mk (fun A c w h1 h2 => own_near hns A c w h1 h2)
  have HMS := Aside0.mk (fun A c w h1 h2 => (make_near (A := A) (c := c) (w := w) h1 h2 hns.len hns.bd).mono (fun _ _ h => make_roomy (by rw [List.length_map]; exact hns.len) h))
  have HMT := Aside0.mk (fun A c w h1 h2 => (make_near (A := A) (c := c) (w := w) h1 h2 hnt.len hnt.bd).mono (fun _ _ h => make_roomy (by rw [List.length_map]; exact hnt.len) h))
  have HBS := Aside0.mk (fun (w0 w : World) (F : Nat → Prop) (p N : Nat) (nodes : List Nd) (empty : List Int) (A : Option Addr) (c : Nat) (h : Roomy w0 w F p nodes empty N) (hN : N ≤ 200000) (hC : Kd.C k57 w A (s.map ownC).length (s.map ownC)) (hb : Below w0.heap.size w0 w) => build_ste h hN hns A c hC hb)
  have HCS := Aside0.mk (fun (w0 w : World) (F : Nat → Prop) (p N : Nat) (nodes : List Nd) (empty : List Int) (i : Nat) (h : Roomy w0 w F p nodes empty N) (hN : N ≤ 200000) (hr : Rep nodes (rootQ (s.map ownC)) i) => cells_row h hN hns hr 100 (by omega))
  have HAS := Aside0.mk (fun A B c d w h1 h2 h3 h4 => are_walk (s.map ownC) s (by have := hns.len; omega) A B c d w h1 h2 h3 h4)
  simp only [if_true] at HAS
  generalize s.map ownC = S at *
  generalize t.map ownC = T at *
  generalize raw.length = rn at *
  generalize other.length = on at *
  -- the number that is none
  obtain ⟨v, hv⟩ : ∃ v : Nat, Go.bits .or .u32 i 2147483648 = (v : Int) ∧ 2147483648 ≤ v ∧ v < 4294967296 := by
    have h := (bits_nat .u32 32 (by decide) (fun n h0 h1 => by rw [IntKind.wrap_u32]; omega) i.toNat 2147483648 (by omega) (by decide)).2
    rw [Int.toNat_of_nonneg hi.1] at h
    exact ⟨_, h, Nat.right_le_or, Nat.or_lt_two_pow (n := 32) (by omega) (by decide)⟩
  have HV := Aside0.mk hv.2
  have hor := hv.1
  clear hs ht hws hwt hns hnt hR hO hrc hoc hv
  go_enter Try.func9, Try.ntmps9
  go_upto_region 4 with (first
    | (go_at_call 41; refine (sawake_walk _).mono ?_; rintro e w1 ⟨rfl, hb1⟩; have HB1 := Aside0.mk hb1; clear hb1)
    | (go_at_call 22; with_reducible refine (HWS.out _ HB1.out).mono ?_; rintro e w2 ⟨sA, sc, rfl, hsc, hsC, hb2⟩; have HB2 := Aside0.mk (chain HB1.out hb2 HB1.out.size); have HSC := Aside0.mk hsC; have HSc := Aside0.mk hsc; clear hsc hsC hb2)
    | (go_at_call 22; with_reducible refine (HWT.out _ HB2.out).mono ?_; rintro e w3 ⟨tA, tc, rfl, htc, htC, hb3⟩; have HB3 := Aside0.mk (chain HB2.out hb3 HB2.out.size); have HSC3 := Aside0.mk (Kd.C_below HSC.out hb3); have HTC := Aside0.mk htC; have HTc := Aside0.mk htc; clear htc htC hb3))
  clear HWS HWT HB1 HB2 HSC
  go_upto_region 8 with (first
    | (go_at_call 23; with_reducible refine (HMS.out _ _ _ HSC3.out HSc.out).mono ?_; rintro e w4 ⟨p, F4, nodes4, empty4, x, rfl, hr4, hx4, hb4⟩; have HR4 := Aside0.mk hr4; have HX4 := Aside0.mk hx4; have HB4 := Aside0.mk hb4; clear hr4 hx4 hb4)
    | (go_at_call 23; with_reducible refine (HMT.out _ _ _ (Kd.C_below HTC.out HB4.out) HTc.out).mono ?_; rintro e w5 ⟨p5, F5, nodes5, empty5, y, rfl, hr5, hy5, hb5⟩; have HR5 := Aside0.mk hr5; have HR45 := Aside0.mk (HR4.out.below hb5); have HB4L := Aside0.mk HB4.out; have HBB5 := Aside0.mk hb5; have HB5 := Aside0.mk (chain HB4.out hb5 HB4.out.size); have HDIS := Aside0.mk (show ∀ k, F4 k → ¬ F5 k from fun k h4 h5 => by have e1 := HR4.out.tr.hold.hi k h4; have e2 := hr5.tr.hold.lo k h5; omega); clear hr5 hy5 hb5))
  clear HMS HMT HR4 HB4
  have HA5 := Aside0.mk (below_alloc (Below.refl w5.heap.size w5) (.cells #[.int .u32 (x : Int), .int .u32 (x : Int)] 38))
  have HBA5 := Aside0.mk (chain HBB5.out HA5.out HBB5.out.size)
  have HC6 := Aside0.mk (copy_roomy (HR45.out.below HA5.out) (HR5.out.below HA5.out) (by omega) HBA5.out HDIS.out (some ⟨w5.heap.size, 0, none⟩) 2 [x, x] (lit_slice w5 (fun k => ¬ F5 k) [(x : Int), (x : Int)] (show 2 ≤ maxLen by decide) (fun hf => by have := HR5.out.tr.hold.hi _ hf; omega)) (fun r hr => by
    simp only [List.mem_cons, List.not_mem_nil, or_false] at hr
    rcases hr with rfl | rfl <;> exact HX4.out.lt) (by simp))
  go_upto_region 9 with (go_at_call 48; refine HC6.out.mono ?_; rintro e w6 ⟨F6, dst6, js, A6, c6, rfl, hr6, hx6, hl6, hi6, ha6, hd6, hrow6, hb6⟩; have hl2 : js.length = 2 := hl6; rw [hl2] at hrow6 ⊢; have hj1 := Rep.same hr6.tr.once (hi6 1 x _ rfl HX4.out) (hi6 0 x _ rfl HX4.out); have HJ0 := Aside0.mk (hi6 0 x _ rfl HX4.out); obtain ⟨be, rfl, hcell, _⟩ := row_at hrow6 hl2 (by omega); have ce0 := hcell 0 (by omega); have ce1 := hcell 1 (by omega); rw [hj1] at ce1; have HR6 := Aside0.mk hr6; have HRA6 := Aside0.mk ha6; have HD6 := Aside0.mk hd6; have HROW6 := Aside0.mk hrow6; have HL6 := Aside0.mk hl2; have HBB6 := Aside0.mk hb6; have HB6 := Aside0.mk (chain HB4L.out hb6 HB4L.out.size); clear hr6 hx6 hl6 hi6 ha6 hd6 hrow6 hb6 hcell hj1 hl2)
  generalize hj0 : js.getD 0 0 = j0 at *
  have HJE := Aside0.mk hj0
  clear hj0 HC6 HA5 HBA5 HR45 HR5 HBB5 HB5 HDIS
  go_quiet (fail)
  go_upto_region 11 with (fail)
  generalize hw6 : w6.drewN nq = w6d at *
  have HBD := Aside0.mk (show Below w6.heap.size w6 w6d by rw [← hw6]; exact below_drewN (Below.refl _ _) _)
  have HR6D := Aside0.mk (HR6.out.below HBD.out)
  have HRA6D := Aside0.mk (HRA6.out.below HBD.out)
  have HBB6D := Aside0.mk (chain HBB6.out HBD.out HBB6.out.size)
  have HB6D := Aside0.mk (chain HB6.out HBD.out HB6.out.size)
  have HROW6D := Aside0.mk (Kd.R_below HROW6.out HBD.out)
  have HCE := Aside0.mk (pw_cell_below HBD.out ce0)
  have ce := HCE.out
  clear hw6 ce0 ce1 HBD HR6 HRA6 HBB6 HB6 HROW6 HCE
  go_upto_region 13 with (first
    | (go_at_call 27; with_reducible refine (HCS.out _ _ _ _ _ _ _ _ HR6D.out (by omega) HJ0.out).mono ?_; rintro e w7 ⟨gA, gc, rfl, hgc, hgC, hb7⟩; have HR7 := Aside0.mk (HR6D.out.below hb7); have HRA7 := Aside0.mk (HRA6D.out.below hb7); have HBB7 := Aside0.mk (chain HBB6D.out hb7 HBB6D.out.size); have HB7 := Aside0.mk (chain HB6D.out hb7 HB6D.out.size); have HROW7 := Aside0.mk (Kd.R_below HROW6D.out hb7); have HGR := Aside0.mk hgC; have HGc := Aside0.mk hgc; clear hgc hgC hb7)
    | (go_at_call 25; with_reducible refine (HOS.out _ _ _ (Kd.C_below HSC3.out HB7.out) HSc.out).mono ?_; rintro e w8 ⟨yA, yc, rfl, hyc, hyC, hb8⟩; have HR8 := Aside0.mk (HR7.out.below hb8); have HRA8 := Aside0.mk (HRA7.out.below hb8); have HYC := Aside0.mk hyC; have HBB8 := Aside0.mk (chain HBB7.out hb8 HBB7.out.size); have HB8 := Aside0.mk (chain HB7.out hb8 HB7.out.size); have HROW8 := Aside0.mk (Kd.R_below HROW7.out hb8); have HGR8 := Aside0.mk (Kd.R_below HGR.out hb8); clear hyc hyC hb8)
    | (go_at_call 24; with_reducible refine (HBS.out _ _ _ _ _ _ _ _ _ HR8.out (by omega) HYC.out HBB8.out).mono ?_; rintro e w9 ⟨F9, nodes9, empty9, k, rfl, hr9, hs9, hk9, hb9⟩; obtain rfl : k = j0 := Rep.same hr9.tr.once hk9 (hs9.rep HJ0.out); have HR9 := Aside0.mk hr9; have HRA9 := Aside0.mk (HRA8.out.other hs9.keeps HD6.out); have HROW9 := Aside0.mk (kd_step HROW8.out hs9); have HGR9 := Aside0.mk (Kd.R_reads' (kd_step HGR8.out hs9)).2.2; have HB9 := Aside0.mk (HB8.out.trans (hs9.keeps.below (fun k hk => Nat.le_trans HB4L.out.size (HR8.out.tr.hold.lo k hk)) HB8.out.size)); have HBB9 := Aside0.mk hb9; have HD9 := Aside0.mk (show ∀ k, F4 k → ¬ F9 k from fun k h4 h9 => absurd ((hs9.old k (HRA8.out.tr.hold.hi k h4)).1 h9) (HD6.out k h4)); clear hr9 hs9 hk9 hb9))
  clear HR6D HRA6D HBB6D HB6D HROW6D HR7 HRA7 HBB7 HB7 HROW7 HGR HR8 HRA8 HBB8 HB8 HROW8 HOS HBS HCS HYC ce HD6
  obtain ⟨bg, hbg, hcell, _⟩ := row_at HROW9.out HL6.out (by omega)
  obtain rfl : be = bg := by injection hbg with h1; injection h1
  have ce := hcell 0 (by omega)
  rw [HJE.out] at ce
  clear hbg hcell HROW9
  clear HGR8 HJE HL6
  go_upto_region 16 with (go_at_call 28; with_reducible refine (HAS.out _ _ _ _ _ HGR9.out HGc.out (Kd.C_below HSC3.out HB9.out) HSc.out).mono ?_; rintro e w10 ⟨rfl, hb10⟩; have HR10 := Aside0.mk (HR9.out.below hb10); have HRA10 := Aside0.mk (HRA9.out.below hb10); have HBB10 := Aside0.mk (chain HBB9.out hb10 HBB9.out.size); have HB10 := Aside0.mk (chain HB9.out hb10 HB9.out.size); clear hb10)
  clear HR9 HRA9 HBB9 HB9 HGR9 HGc HAS HJ0 ce
  have HVN := Aside0.mk (show ¬ v < nodes4.length by have h1 := HRA10.out.len; have h2 := HV.out; omega)
  have HXL := Aside0.mk HX4.out.lt
  have HX32 := Aside0.mk (show x < 4294967296 by have h1 := HRA10.out.len; have h2 := HX4.out.lt; omega)
  have HA10 := Aside0.mk (below_alloc (Below.refl w10.heap.size w10) (.cells #[.int .u32 (x : Int), .int .u32 (v : Int)] 38))
  have HC11 := Aside0.mk (copy_arg (HRA10.out.below HA10.out) (HR10.out.below HA10.out) (by omega) (chain HBB10.out HA10.out HBB10.out.size) HD9.out (some ⟨w10.heap.size, 0, none⟩) 2 [x, v] (lit_slice w10 (fun k => ¬ F9 k) [(x : Int), (v : Int)] (show 2 ≤ maxLen by decide) (fun hf => by have := HR10.out.tr.hold.hi _ hf; omega)) (fun r hr => by
    simp only [List.mem_cons, List.not_mem_nil, or_false] at hr
    rcases hr with rfl | rfl
    · exact HX32.out
    · exact HV.out.2) ⟨v, by simp, HVN.out⟩ (by simp))
  go_upto_region 17 with (go_at_call 48; refine HC11.out.mono ?_; rintro e w11 ⟨rfl, ha11, hb11⟩; have HRA11 := Aside0.mk ha11; have HB11 := Aside0.mk (chain HB4L.out hb11 HB4L.out.size); clear ha11 hb11)
  clear HC11 HA10 HR10 HRA10 HBB10 HB10 HD9
  have HA11 := Aside0.mk (below_alloc (Below.refl w11.heap.size w11) (.cells #[.int .u32 (v : Int)] 38))
  have HRA11A := Aside0.mk (HRA11.out.below HA11.out)
  have HB11A := Aside0.mk (chain HB11.out HA11.out HB11.out.size)
  have HC12 := Aside0.mk (reach_arg HRA11A.out (by omega) (some ⟨w11.heap.size, 0, none⟩) 1 [v] (Kd.R_reads' (lit_slice w11 (fun _ => True) [(v : Int)] (show 1 ≤ maxLen by decide) trivial)).2.2 (fun r hr => by
    obtain rfl : r = v := List.mem_singleton.1 hr
    exact HV.out.2) ⟨v, by simp, HVN.out⟩)
  go_upto_region 18 with (go_at_call 44; refine HC12.out.mono ?_; rintro e w12 ⟨rfl, hb12⟩; have HRA12 := Aside0.mk (HRA11A.out.below hb12); have HB12 := Aside0.mk (chain HB11A.out hb12 HB11A.out.size); clear hb12)
  clear HC12 HA11 HRA11 HRA11A HB11 HB11A
  have HA12 := Aside0.mk (below_alloc (Below.refl w12.heap.size w12) (.cells #[.int .u32 (v : Int)] 38))
  have HRA12A := Aside0.mk (HRA12.out.below HA12.out)
  have HB12A := Aside0.mk (chain HB12.out HA12.out HB12.out.size)
  have HC13 := Aside0.mk (collect_arg HRA12A.out (by omega) (some ⟨w12.heap.size, 0, none⟩) 1 [v] (lit_slice w12 (fun _ => True) [(v : Int)] (show 1 ≤ maxLen by decide) trivial) (fun r hr => by
    obtain rfl : r = v := List.mem_singleton.1 hr
    exact HV.out.2) ⟨v, by simp, HVN.out⟩ (by simp))
  go_upto_region 19 with (go_at_call 45; refine HC13.out.mono ?_; rintro e w13 ⟨rfl, hb13⟩; have HRA13 := Aside0.mk (HRA12A.out.below hb13); have HB13 := Aside0.mk (chain HB12A.out hb13 HB12A.out.size); clear hb13)
  clear HC13 HA12 HRA12 HRA12A HB12 HB12A
  have HNEW := Aside0.mk (tr_new 64 (by decide) w13)
  rw [show max (64 : Int) 64 = 64 from rfl] at HNEW
  go_upto_region 20 with (go_at_call 40; refine HNEW.out.mono ?_; rintro e w14 ⟨p14, F14, rfl, ht14, hb14⟩; have HT14 := Aside0.mk ht14; have HBS14 := Aside0.mk hb14; have HRA14 := Aside0.mk (HRA13.out.below hb14); have HB14 := Aside0.mk (chain HB13.out hb14 HB13.out.size); have HD14 := Aside0.mk (show ∀ k, F4 k → ¬ F14 k from fun k h4 h5 => by have e1 := HRA13.out.tr.hold.hi k h4; have e2 := ht14.hold.lo k h5; omega); clear ht14 hb14)
  clear HNEW HRA13
  have HA14 := Aside0.mk (below_alloc (Below.refl w14.heap.size w14) (.cells #[.int .u32 (x : Int)] 38))
  have HC15 := Aside0.mk (copy_small (HRA14.out.below HA14.out) (by omega) (HT14.out.below HA14.out) (chain HBS14.out HA14.out HBS14.out.size) HD14.out (some ⟨w14.heap.size, 0, none⟩) 1 x (lit_slice w14 (fun k => ¬ F14 k) [(x : Int)] (show 1 ≤ maxLen by decide) (fun hf => by have := HT14.out.hold.hi _ hf; omega)) HXL.out)
  go_wp2_with (fail)
  refine HC15.out.mono ?_
  intro e w15 hp
  obtain ⟨ha15, hb15, hcase⟩ := hp
  rcases hcase with ⟨A15, c15, rfl, hS⟩ | ⟨rfl, hS⟩
  · skip
    have HRA15 := Aside0.mk ha15
    have HB15 := Aside0.mk (chain HB13.out hb15 HB13.out.size)
    have HA15 := Aside0.mk (below_alloc (Below.refl w15.heap.size w15) (.cells #[.int .u32 (x : Int)] 38))
    have HRA15A := Aside0.mk (HRA15.out.below HA15.out)
    have HB15A := Aside0.mk (chain HB15.out HA15.out HB15.out.size)
    have HSZ := Aside0.mk hS
    have HC16 := Aside0.mk (reach_roomy HRA15A.out (by omega) (some ⟨w15.heap.size, 0, none⟩) 1 [x] (Kd.R_reads' (lit_slice w15 (fun _ => True) [(x : Int)] (show 1 ≤ maxLen by decide) trivial)).2.2 (fun r hr => by
      obtain rfl : r = x := List.mem_singleton.1 hr
      exact HXL.out))
    clear ha15 hb15 hS HC15 HA14 HT14 HBS14 HRA14 HB14 HD14 HB13
    go_upto_region 22 with (go_at_call 44; refine HC16.out.mono ?_; rintro e w16 ⟨S', hS', rfl, hb16⟩; have HB16 := Aside0.mk (chain HB15A.out hb16 HB15A.out.size); have HSN := Aside0.mk (HSZ.out S' hS'); clear hS' hb16)
    have hn44 := fun (w : World) => errEq w 4 4
    rw [show ((4 : Int) == 4) = true from by decide] at hn44
    have hn88 := fun (w : World) => errEq w 8 8
    rw [show ((8 : Int) == 8) = true from by decide] at hn88
    have hsn := HSN.out
    have hsi : (S'.length : Int) ≤ 64 := by omega
    generalize (S'.length : Int) = sl at *
    clear hsn HSN HC16 HSZ HRA15 HRA15A HB15 HB15A HA15
    go_wp2_with (fail)
    refine bodyPost_ret (v := .bool true) (by simp [results, Try.results9, go_sem]) rfl ?_
    exact ⟨rfl, chain HB3.out HB16.out HB3.out.size⟩
  · skip
    have HRA15 := Aside0.mk ha15
    have HB15 := Aside0.mk (chain HB13.out hb15 HB13.out.size)
    have HA15 := Aside0.mk (below_alloc (Below.refl w15.heap.size w15) (.cells #[.int .u32 (x : Int)] 38))
    have HRA15A := Aside0.mk (HRA15.out.below HA15.out)
    have HB15A := Aside0.mk (chain HB15.out HA15.out HB15.out.size)
    have HSZ := Aside0.mk hS
    have HC16 := Aside0.mk (reach_roomy HRA15A.out (by omega) (some ⟨w15.heap.size, 0, none⟩) 1 [x] (Kd.R_reads' (lit_slice w15 (fun _ => True) [(x : Int)] (show 1 ≤ maxLen by decide) trivial)).2.2 (fun r hr => by
      obtain rfl : r = x := List.mem_singleton.1 hr
      exact HXL.out))
    clear ha15 hb15 hS HC15 HA14 HT14 HBS14 HRA14 HB14 HD14 HB13
    go_upto_region 22 with (go_at_call 44; refine HC16.out.mono ?_; rintro e w16 ⟨S', hS', rfl, hb16⟩; have HB16 := Aside0.mk (chain HB15A.out hb16 HB15A.out.size); have HSN := Aside0.mk (HSZ.out S' hS'); clear hS' hb16)
    have hn44 := fun (w : World) => errEq w 4 4
    rw [show ((4 : Int) == 4) = true from by decide] at hn44
    have hn88 := fun (w : World) => errEq w 8 8
    rw [show ((8 : Int) == 8) = true from by decide] at hn88
    have hsn := HSN.out
    have hsi : (64 : Int) ≤ (S'.length : Int) := by omega
    generalize (S'.length : Int) = sl at *
    clear hsn HSN HC16 HSZ HRA15 HRA15A HB15 HB15A HA15
    go_wp2_with (fail)
    refine bodyPost_ret (v := .bool true) (by simp [results, Try.results9, go_sem]) rfl ?_
    exact ⟨rfl, chain HB3.out HB16.out HB3.out.size⟩
theorem copies_law (i : Int) (h0 : 0 ≤ i) (h1 : i < 4294967296) (rA oA : Option Addr) (rn rc on oc : Nat) (raw other : List Rc) (w : World) (hrl : raw.length = rn) (hR : Kd.C k30 w rA rn raw) (hrc : rn ≤ rc) (hol : other.length = on) (hO : Kd.C k30 w oA on other) (hoc : on ≤ oc) :
    Calls Try.prog 9 #[.slice rA rn rc, .slice oA on oc, .int .u32 i] w fun e w' => e = .returned (.bool true) ∧ Below w.heap.size w w' := by
  subst hrl hol
  exact copies_walk i ⟨h0, h1⟩ raw other rA oA rc oc w hR hrc hO hoc
end Go.Proofs.Ytbkbkgfpnefilaa.tr
namespace Go.Proofs.Ytbkbkgfpnefilaa.lawSweepCopies
open Go.ChangeShapes Go.WideShapes Go.ChangeAt Go.RowKit Go.Joins

theorem params_read : ∀ t ∈ Try.f9.params.toList, Try.prog.readableRec t = true ∧ t < Try.prog.types.size := by
  have h : (Try.f9.params.toList.all fun t => Try.prog.readableRec t && decide (t < Try.prog.types.size)) = true := by kernel_rfl
  intro t ht
  have := List.all_eq_true.1 h t ht
  simpa using this
set_option maxRecDepth 100000 in
theorem contract (H : Type) (enc : TypeId × Value → H) (W : World) (base : Nat) (args : Array Value) (ds gs : List (DataW H)) (before : List MemPlace)
    (hval : ∀ (j : Nat) t v, Try.f9.params[j]? = some t → args[j]? = some v → Value.okWide Try.prog W .any base t v)
    (hW : DataW.Whole enc Try.prog Try.f9.params.toList Rows.sweepCopiesSpec.vars false W args.toList ds gs before) :
    Calls Try.prog 9 args W fun e W' => ∃ v, e = .returned v ∧ Rows.sweepCopiesSpec.post enc Try.prog Try.f9 false true false false W args v W' := by
  have hW' := hW
  obtain ⟨p, q, hA0, hV, rfl, hfz, hnd⟩ := hW
  have hA : DataW.TrodAll enc Try.prog W 0 (fun _ => true) true Try.f9.params.toList args.toList ds p := hA0
  rw [Try.params9] at hA hval
  obtain ⟨v0, vs0, d0, ds0, p0, q0, hargs, rfl, rfl, h0, r0⟩ := trodAll_cons hA
  obtain ⟨v1, vs1, d1, ds1, p1, q1, rfl, rfl, rfl, h1, r1⟩ := trodAll_cons r0
  obtain ⟨v2, vs2, d2, ds2, p2, q2, rfl, rfl, rfl, h2, r2⟩ := trodAll_cons r1
  obtain ⟨rfl, rfl, rfl⟩ := trodAll_nil r2
  obtain rfl : args = #[v0, v1, v2] := by cases args; simp_all
  obtain ⟨rfl, rfl⟩ := trodVars_none hV
  obtain ⟨rawA, rawn, rawc, raw, rfl, rawl, rawC, rawg, rawm⟩ := tr.open_rowsC PTreeBuilds.k30 tr.RcOk Try.underlying31 (by kernel_rfl) (fun m cs y h => tr.rcell_open m cs y h) (hval 0 31 v0 rfl rfl) h0
  obtain ⟨otherA, othern, otherc, other, rfl, otherl, otherC, otherg, otherm⟩ := tr.open_rowsC PTreeBuilds.k30 tr.RcOk Try.underlying31 (by kernel_rfl) (fun m cs y h => tr.rcell_open m cs y h) (hval 1 31 v1 rfl rfl) h1
  obtain ⟨i, rfl, rfl, rfl, wi⟩ := open_int Try.underlying38 (hval 2 38 v2 rfl rfl) h2
  clear hA0
  have bi := bs.bd_u32 wi
  refine (tr.copies_law i bi.1 (Int.lt_of_le_of_lt bi.2 (by decide)) rawA otherA rawn rawc othern otherc raw other W rawl rawC rawm otherl otherC otherm).mono fun e W' ⟨he, hg⟩ => ?_
  subst he
  exact ⟨_, rfl, bs.post_law (tb := 4) hW' hg (by kernel_rfl) params_read rfl rfl Try.underlying4 rfl (fun _ => okWide_bool_mk Try.underlying4 _)⟩

theorem own : ownKnob Try.prog.godebug = none := by kernel_rfl
set_option maxRecDepth 100000 in
theorem lifted (os : Os) (started : os.Started) (H : Type) (enc : TypeId × Value → H) :
    ReturnsInHanded {} Try.checked os 9 .any (Rows.sweepCopiesSpec.pre6 enc Try.prog Try.f9 Rows.sweepCopiesRow.domain false) (Rows.sweepCopiesSpec.post enc Try.prog Try.f9 false true false false) := by
  refine returnsInHanded_of_change_sized (C := Try.checked) own started (by kernel_rfl) Try.func9
    (ChangeSpec.witness6 (enc := enc) (C := Try.checked) false ⟨#[], #[Value.slice none 0 0, .slice none 0 0, .int .u32 0], []⟩ 8 (by kernel_rfl) (by kernel_rfl) (by kernel_rfl) (by kernel_rfl)) ?_
  intro W base args ds gs before hval hW _ _ _
  exact contract H enc W base args ds gs before hval hW

theorem said : Rows.SweepCopiesSaid :=
  OpenClaim.holds_of_wide 9 Try.f9 rfl rfl rfl rfl rfl rfl rfl ⟨rfl, rfl, rfl, rfl, rfl⟩ rfl rfl rfl rfl rfl (by kernel_rfl) Try.func9 (by kernel_rfl)
    (of_decide_eq_true (by kernel_rfl)) (by unfold Func.isWrapper; first | (rw [if_pos (by decide +kernel)]; kernel_rfl) | (rw [if_neg (by decide +kernel)]; exact ⟨rfl, rfl⟩))
    (fun os started H enc _ => lifted os started H enc)
end Go.Proofs.Ytbkbkgfpnefilaa.lawSweepCopies
