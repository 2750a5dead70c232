/- The walk over the law SweepAgain. -/
import Derived.Test.YtbkbkgfpnefilaaMSh
import Derived.Test.YtbkbkgfpnefilaaMCo
namespace Go.Proofs.Ytbkbkgfpnefilaa.tr
open Go.RowKit Go.Proofs.Ytbkbkgfpnefilaa.PTreeBuilds Go.Proofs.YtbkbkgfpnefilaaW.PrintWords Go.Proofs.YtbkbkgfpnefilaaW.PrintLast Go.Proofs.YtbkbkgfpnefilaaW.PrintMore Go.Proofs.Ytbkbkgfpnefilaa.bs Go.ChangeShapes Go.Proofs.Ytbkbkgfpnefilaa.lb Go.Proofs.Ytbkbkgfpnefilaa.ar Go.Maps

theorem wide_walk (raw : List Rc) (A : Option Addr) (c : Nat) (w : World) (hC : Kd.C k30 w A raw.length raw) (hc : raw.length ≤ c) :
    Calls Try.prog 22 #[.slice A raw.length c] w fun e w' => ∃ A' c', e = .returned (.slice A' (wideR raw).length c') ∧ (wideR raw).length ≤ c' ∧ Kd.C k30 w' A' (wideR raw).length (wideR raw) ∧ Below w.heap.size w w' := by
  refine (honeycomblaw13_Wide.calls 4000 A c raw (wideR raw) w hC hc (wide_val raw 4000 (by omega))).mono fun e w' ⟨v, he, hr, hb⟩ => ?_
  obtain ⟨A', c', hv, hc', hC'⟩ := Kd.R_reads hr
  exact ⟨A', c', by rw [he, hv], hc', hC', hb⟩
theorem are_walk (l : List Cl) (m : List Rc) (hm : m.length ≤ 1000000) (A B : Option Addr) (c d : Nat) (w : World) (hl : Kd.C k57 w A l.length l) (hc : l.length ≤ c) (hM : Kd.C k30 w B m.length m) (hd : m.length ≤ d) :
    Calls Try.prog 28 #[.slice A l.length c, .slice B m.length d] w fun e w' => e = .returned (.int .i64 (if l = m.map ownC then 0 else -1)) ∧ Below w.heap.size w w' :=
  honeycomblaw04_Are.calls (m.length + 1) A c l B d m _ w hl hc hM hd (are_val l m hm _ (by omega))
set_option maxRecDepth 100000 in
set_option maxHeartbeats 4000000 in
theorem shares_walk (raw other : List Rc) (rA oA : Option Addr) (rc oc : Nat) (w : World) (hR : Kd.C k30 w rA raw.length raw) (hrc : raw.length ≤ rc) (hO : Kd.C k30 w oA other.length other) (hoc : other.length ≤ oc) :
    Calls Try.prog 4 #[.slice rA raw.length rc, .slice oA other.length oc] w fun e w' => e = .returned (.bool true) ∧ Below w.heap.size w w' := by
  have hws := fun (w' : World) (hb : Below w.heap.size w w') => wide_walk raw rA rc w' (Kd.C_below hR hb) hrc
  have hwt := fun (w' : World) (hb : Below w.heap.size w w') => wide_walk other oA oc w' (Kd.C_below hO hb) hoc
  have hns := wide_near raw
  have hnt := wide_near other
  obtain ⟨s, hs⟩ : ∃ s, wideR raw = s := ⟨_, rfl⟩
  obtain ⟨t, ht⟩ : ∃ t, wideR other = t := ⟨_, rfl⟩
  simp only [hs] at hws hns
  simp only [ht] at hwt hnt
  have HWS := Aside0.mk hws
  have HWT := Aside0.mk hwt
  have HX := Aside0.mk (show rootQ (s.map ownC) = rootQ (t.map ownC) → s.map ownC = t.map ownC from hns.same hnt)
  have HOS := Aside0.mk (fun A c w h1 h2 => own_near hns A c w h1 h2)
  have HOT := Aside0.mk (fun A c w h1 h2 => own_near hnt A c w h1 h2)
  have HMK := Aside0.mk (fun A c w h1 h2 => (make_near (A := A) (c := c) (w := w) h1 h2 hns.len hns.bd).mono (fun _ _ h => make_roomy (by rw [List.length_map]; exact hns.len) h))
  have HBS := Aside0.mk (fun (w0 w : World) (F : Nat → Prop) (p N : Nat) (nodes : List Nd) (empty : List Int) (A : Option Addr) (c : Nat) (h : Roomy w0 w F p nodes empty N) (hN : N ≤ 200000) (hC : Kd.C k57 w A (s.map ownC).length (s.map ownC)) (hb : Below w0.heap.size w0 w) => build_roomy h hN hns A c hC hb)
  have HBT := Aside0.mk (fun (w0 w : World) (F : Nat → Prop) (p N : Nat) (nodes : List Nd) (empty : List Int) (A : Option Addr) (c : Nat) (h : Roomy w0 w F p nodes empty N) (hN : N ≤ 200000) (hC : Kd.C k57 w A (t.map ownC).length (t.map ownC)) (hb : Below w0.heap.size w0 w) => build_roomy h hN hnt A c hC hb)
  have HCS := Aside0.mk (fun (w0 w : World) (F : Nat → Prop) (p N : Nat) (nodes : List Nd) (empty : List Int) (i : Nat) (h : Roomy w0 w F p nodes empty N) (hN : N ≤ 200000) (hr : Rep nodes (rootQ (s.map ownC)) i) => cells_roomy h hN hns hr 100 (by omega))
  have HCT := Aside0.mk (fun (w0 w : World) (F : Nat → Prop) (p N : Nat) (nodes : List Nd) (empty : List Int) (i : Nat) (h : Roomy w0 w F p nodes empty N) (hN : N ≤ 200000) (hr : Rep nodes (rootQ (t.map ownC)) i) => cells_roomy h hN hnt hr 100 (by omega))
  have HAS := Aside0.mk (fun A B c d w h1 h2 h3 h4 => are_walk (s.map ownC) s (by have := hns.len; omega) A B c d w h1 h2 h3 h4)
  have HAT := Aside0.mk (fun A B c d w h1 h2 h3 h4 => are_walk (t.map ownC) t (by have := hnt.len; omega) A B c d w h1 h2 h3 h4)
  have HAX := Aside0.mk (fun A B c d w h1 h2 h3 h4 => are_walk (s.map ownC) t (by have := hnt.len; omega) A B c d w h1 h2 h3 h4)
  simp only [if_true] at HAS HAT
  generalize s.map ownC = S at *
  generalize t.map ownC = T at *
  generalize raw.length = rn at *
  generalize other.length = on at *
  clear hs ht hws hwt hns hnt hR hO hrc hoc
  go_enter Try.func4, Try.ntmps4
  go_upto_region 4 with (first
    | (go_at_call 15; refine (awake_walk _).mono ?_; rintro e w1 ⟨rfl, hb1⟩; have HB1 := Aside0.mk hb1; clear hb1)
    | (go_at_call 22; with_reducible refine (HWS.out _ HB1.out).mono ?_; rintro e w2 ⟨sA, sc, rfl, hsc, hsC, hb2⟩; have HB2 := Aside0.mk (chain HB1.out hb2 HB1.out.size); have HSC := Aside0.mk hsC; have HSc := Aside0.mk hsc; clear hsc hsC hb2)
    | (go_at_call 22; with_reducible refine (HWT.out _ HB2.out).mono ?_; rintro e w3 ⟨tA, tc, rfl, htc, htC, hb3⟩; have HB3 := Aside0.mk (chain HB2.out hb3 HB2.out.size); have HSC3 := Aside0.mk (Kd.C_below HSC.out hb3); have HTC := Aside0.mk htC; have HTc := Aside0.mk htc; clear htc htC hb3))
  go_upto_region 9 with (first
    | (go_at_call 23; with_reducible refine (HMK.out _ _ _ HSC3.out HSc.out).mono ?_; rintro e w4 ⟨p, F4, nodes4, empty4, x, rfl, hr4, hx4, hb4⟩; have HR4 := Aside0.mk hr4; have HX4 := Aside0.mk hx4; have HB4 := Aside0.mk hb4; clear hr4 hx4 hb4)
    | (go_at_call 25; with_reducible refine (HOT.out _ _ _ (Kd.C_below HTC.out HB4.out) HTc.out).mono ?_; rintro e w5 ⟨yA, yc, rfl, hyc, hyC, hb5⟩; have HR5 := Aside0.mk (HR4.out.below hb5); have HYC := Aside0.mk hyC; have HB5 := Aside0.mk (chain HB4.out hb5 HB4.out.size); clear hyc hyC hb5)
    | (go_at_call 24; with_reducible refine (HBT.out _ _ _ _ _ _ _ _ _ HR5.out (by omega) HYC.out HB5.out).mono ?_; rintro e w6 ⟨F6, nodes6, empty6, y, rfl, hr6, ho6, hy6, hh6, hb6⟩; have HR6 := Aside0.mk hr6; have HY6 := Aside0.mk hy6; have HX6 := Aside0.mk (ho6 _ _ HX4.out); have HB6 := Aside0.mk hb6; clear hr6 ho6 hy6 hh6 hb6)
    | (go_at_call 25; with_reducible refine (HOS.out _ _ _ (Kd.C_below HSC3.out HB6.out) HSc.out).mono ?_; rintro e w7 ⟨zA, zc, rfl, hzc, hzC, hb7⟩; have HR7 := Aside0.mk (HR6.out.below hb7); have HZC := Aside0.mk hzC; have HB7 := Aside0.mk (chain HB6.out hb7 HB6.out.size); clear hzc hzC hb7)
    | (go_at_call 24; with_reducible refine (HBS.out _ _ _ _ _ _ _ _ _ HR7.out (by omega) HZC.out HB7.out).mono ?_; rintro e w8 ⟨F8, nodes8, empty8, z, rfl, hr8, ho8, hz8, hh8, hb8⟩; have HN8 := Aside0.mk (hh8 ⟨_, HX6.out⟩); have HR8 := Aside0.mk hr8; have HZ8 := Aside0.mk hz8; have HB8 := Aside0.mk hb8; clear hr8 ho8 hz8 hh8 hb8))
  obtain rfl : nodes8 = nodes6 := HN8.out
  obtain rfl : z = x := Rep.same HR8.out.tr.once HZ8.out HX6.out
  clear HN8 HX6 HX4 HR4 HR5 HR6 HR7 HB4 HB5 HB6 HB7 HYC HZC HMK
  go_upto_region 13 with (first
    | (go_at_call 26; refine (alen_walk F8 p nodes8 empty8 1048576 _ HR8.out.tr.hold.ar).mono ?_; rintro e w9 ⟨rfl, rfl⟩)
    | (go_at_call 25; with_reducible refine (HOT.out _ _ _ (Kd.C_below HTC.out HB8.out) HTc.out).mono ?_; rintro e w10 ⟨yA, yc, rfl, hyc, hyC, hb10⟩; have HR10 := Aside0.mk (HR8.out.below hb10); have HYC := Aside0.mk hyC; have HB10 := Aside0.mk (chain HB8.out hb10 HB8.out.size); clear hyc hyC hb10)
    | (go_at_call 24; with_reducible refine (HBT.out _ _ _ _ _ _ _ _ _ HR10.out (by omega) HYC.out HB10.out).mono ?_; rintro e w11 ⟨F11, nodes11, empty11, v, rfl, hr11, ho11, hv11, hh11, hb11⟩; obtain rfl : nodes11 = nodes8 := hh11 ⟨_, HY6.out⟩; obtain rfl : v = y := Rep.same hr11.tr.once hv11 HY6.out; have HR11 := Aside0.mk hr11; have HB11 := Aside0.mk hb11; clear hr11 ho11 hv11 hh11 hb11)
    | (go_at_call 27; with_reducible refine (HCS.out _ _ _ _ _ _ _ _ HR11.out (by omega) HZ8.out).mono ?_; rintro e w12 ⟨oneA, onec, rfl, honec, hone, hb12⟩; have HR12 := Aside0.mk (HR11.out.below hb12); have HB12 := Aside0.mk (chain HB11.out hb12 HB11.out.size); have HONE := Aside0.mk hone; have HONEc := Aside0.mk honec; clear honec hone hb12)
    | (go_at_call 27; with_reducible refine (HCT.out _ _ _ _ _ _ _ _ HR12.out (by omega) HY6.out).mono ?_; rintro e w13 ⟨twoA, twoc, rfl, htwoc, htwo, hb13⟩; have HR13 := Aside0.mk (HR12.out.below hb13); have HB13 := Aside0.mk (chain HB12.out hb13 HB12.out.size); have HONE13 := Aside0.mk (Kd.C_below HONE.out hb13); have HTWO := Aside0.mk htwo; have HTWOc := Aside0.mk htwoc; clear htwoc htwo hb13))
  clear HBS HBT HCS HCT HOT HWS HWT HR8 HR10 HR11 HR12 HB8 HB10 HB11 HB12 HYC
  by_cases hxy : z = v
  · subst hxy
    have hST : S = T := HX.out (Rep.one HZ8.out HY6.out)
    subst hST
    simp only [if_true] at HAX
    clear HX HZ8 HY6
    go_wp2_with (first
      | (go_at_call 26; refine (alen_walk F11 p nodes11 empty11 1048576 _ HR13.out.tr.hold.ar).mono ?_; rintro e w14 ⟨rfl, rfl⟩)
      | (go_at_call 25; with_reducible refine (HOS.out _ _ _ (Kd.C_below HSC3.out HB13.out) HSc.out).mono ?_; rintro e w15 ⟨yA, yc, rfl, hyc, hyC, hb15⟩; have HB15 := Aside0.mk (chain HB13.out hb15 HB13.out.size); have HONE15 := Aside0.mk (Kd.C_below HONE13.out hb15); have HTWO15 := Aside0.mk (Kd.C_below HTWO.out hb15); have HYC := Aside0.mk hyC; have HYc := Aside0.mk hyc; clear hyc hyC hb15)
      | (go_at_call 28; with_reducible refine (HAX.out _ _ _ _ _ HYC.out HYc.out (Kd.C_below HTC.out HB15.out) HTc.out).mono ?_; rintro e w16 ⟨rfl, hb16⟩; have HB16 := Aside0.mk (chain HB15.out hb16 HB15.out.size); have HONE16 := Aside0.mk (Kd.C_below HONE15.out hb16); have HTWO16 := Aside0.mk (Kd.C_below HTWO15.out hb16); clear hb16 HYC)
      | (go_at_call 28; with_reducible refine (HAS.out _ _ _ _ _ HONE16.out HONEc.out (Kd.C_below HSC3.out HB16.out) HSc.out).mono ?_; rintro e w17 ⟨rfl, hb17⟩; have HB17 := Aside0.mk (chain HB16.out hb17 HB16.out.size); have HTWO17 := Aside0.mk (Kd.C_below HTWO16.out hb17); clear hb17 HONE16)
      | (go_at_call 28; with_reducible refine (HAT.out _ _ _ _ _ HTWO17.out HTWOc.out (Kd.C_below HTC.out HB17.out) HTc.out).mono ?_; rintro e w18 ⟨rfl, hb18⟩; have HB18 := Aside0.mk (chain HB17.out hb18 HB17.out.size); clear hb18))
    refine bodyPost_ret (v := .bool true) (by simp [results, Try.results4, go_sem]) rfl ?_
    exact ⟨rfl, chain HB3.out HB18.out HB3.out.size⟩
  · have hST : ¬ S = T := fun h => hxy (by subst h; exact Rep.same HR13.out.tr.once HZ8.out HY6.out)
    simp only [if_neg hST] at HAX
    have hne : ((z : Int) == (v : Int)) = false := by rw [beq_eq_false_iff_ne]; omega
    clear HX HZ8 HY6 hxy hST
    go_wp2_with (first
      | (go_at_call 26; refine (alen_walk F11 p nodes11 empty11 1048576 _ HR13.out.tr.hold.ar).mono ?_; rintro e w14 ⟨rfl, rfl⟩)
      | (go_at_call 25; with_reducible refine (HOS.out _ _ _ (Kd.C_below HSC3.out HB13.out) HSc.out).mono ?_; rintro e w15 ⟨yA, yc, rfl, hyc, hyC, hb15⟩; have HB15 := Aside0.mk (chain HB13.out hb15 HB13.out.size); have HONE15 := Aside0.mk (Kd.C_below HONE13.out hb15); have HTWO15 := Aside0.mk (Kd.C_below HTWO.out hb15); have HYC := Aside0.mk hyC; have HYc := Aside0.mk hyc; clear hyc hyC hb15)
      | (go_at_call 28; with_reducible refine (HAX.out _ _ _ _ _ HYC.out HYc.out (Kd.C_below HTC.out HB15.out) HTc.out).mono ?_; rintro e w16 ⟨rfl, hb16⟩; have HB16 := Aside0.mk (chain HB15.out hb16 HB15.out.size); have HONE16 := Aside0.mk (Kd.C_below HONE15.out hb16); have HTWO16 := Aside0.mk (Kd.C_below HTWO15.out hb16); clear hb16 HYC)
      | (go_at_call 28; with_reducible refine (HAS.out _ _ _ _ _ HONE16.out HONEc.out (Kd.C_below HSC3.out HB16.out) HSc.out).mono ?_; rintro e w17 ⟨rfl, hb17⟩; have HB17 := Aside0.mk (chain HB16.out hb17 HB16.out.size); have HTWO17 := Aside0.mk (Kd.C_below HTWO16.out hb17); clear hb17 HONE16)
      | (go_at_call 28; with_reducible refine (HAT.out _ _ _ _ _ HTWO17.out HTWOc.out (Kd.C_below HTC.out HB17.out) HTc.out).mono ?_; rintro e w18 ⟨rfl, hb18⟩; have HB18 := Aside0.mk (chain HB17.out hb18 HB17.out.size); clear hb18))
    refine bodyPost_ret (v := .bool true) (by simp [results, Try.results4, go_sem]) rfl ?_
    exact ⟨rfl, chain HB3.out HB18.out HB3.out.size⟩
theorem shares_law (rA oA : Option Addr) (rn rc on oc : Nat) (raw other : List Rc) (w : World) (hrl : raw.length = rn) (hR : Kd.C k30 w rA rn raw) (hrc : rn ≤ rc) (hol : other.length = on) (hO : Kd.C k30 w oA on other) (hoc : on ≤ oc) :
    Calls Try.prog 4 #[.slice rA rn rc, .slice oA on oc] w fun e w' => e = .returned (.bool true) ∧ Below w.heap.size w w' := by
  subst hrl hol
  exact shares_walk raw other rA oA rc oc w hR hrc hO hoc
end Go.Proofs.Ytbkbkgfpnefilaa.tr
namespace Go.Proofs.Ytbkbkgfpnefilaa.tr
open Go.RowKit Go.Proofs.Ytbkbkgfpnefilaa.PTreeBuilds Go.Proofs.YtbkbkgfpnefilaaW.PrintWords Go.Proofs.YtbkbkgfpnefilaaW.PrintLast Go.Proofs.YtbkbkgfpnefilaaW.PrintMore Go.Proofs.Ytbkbkgfpnefilaa.bs Go.ChangeShapes Go.Proofs.Ytbkbkgfpnefilaa.lb Go.Proofs.Ytbkbkgfpnefilaa.ar Go.Maps

theorem row_at {w : World} {ok : Nat → Prop} {A : Option Addr} {n c : Nat} {js : List Nat} (h : Kd.R (Kd.int .u32) 38 w 0 ok (.slice A n c) (uRow js)) (hn : js.length = n) (hp : 0 < n) : ∃ be, A = some ⟨be, 0, none⟩ ∧ (∀ t : Nat, t < n → w.cell? ⟨be, t, none⟩ = some (.int .u32 (js.getD t 0 : Nat))) ∧ ok be := by
  have h2 := h
  obtain ⟨be, ce, hv, _⟩ := Kd.R_form h (by rw [uRow_len]; omega)
  injection hv with e1 e2 e3
  subst e1
  refine ⟨be, rfl, fun t ht => ?_, h2.1 be rfl⟩
  have := (Kd.R_celln (enc := Value.int .u32) (h1 := fun _ => rfl) 0 h (t : Int) (by omega) (by omega)).1
  rw [Int.toNat_natCast] at this
  rw [this]
  unfold rdOf uRow
  rw [Int.toNat_natCast, List.getD_eq_getElem?_getD, List.getD_eq_getElem?_getD, List.getElem?_map]
  cases js[t]? <;> rfl
section
variable {w0 w w2 : World} {F F' : Nat → Prop} {p N : Nat} {nodes nodes' : List Nd} {empty empty' : List Int} {most : Int}
/-- one more set built in an arena that has room, with what it leaves of other blocks -/
theorem build_ste (h : Roomy w0 w F p nodes empty N) (hN : N ≤ 200000) {l : List Rc} (hn : NearR l) (A : Option Addr) (c : Nat) (hC : Kd.C k57 w A (l.map ownC).length (l.map ownC)) (hb0 : Below w0.heap.size w0 w) :
    Calls Try.prog 24 #[.pointer (some ⟨p, 0, none⟩), .slice A (l.map ownC).length c] w fun e w' => ∃ F' nodes' empty', ∃ i : Nat, e = .returned (.tuple #[.int .u32 i, .nilIface]) ∧ Roomy w0 w' F' p nodes' empty' (N + 2000) ∧ Ste w0 w w' F F' p nodes nodes' empty empty' 1048576 ∧ Rep nodes' (rootQ (l.map ownC)) i ∧ Below w0.heap.size w0 w' := by
  have hlen : (l.map ownC).length ≤ 40 := by rw [List.length_map]; exact hn.len
  have hnn := h.len
  refine (tbuild_walk h.tr A c (l.map ownC) hC hn.ok.1 (by omega) hn.ok.2 (by omega)).mono fun e w' hg => ?_
  obtain ⟨F', nodes', empty', i, he, hs, hl, hr, hh⟩ := hg.sure (by omega)
  have := hs.tr.emq.hi
  exact ⟨F', nodes', empty', i, he, ⟨hs.tr, by omega⟩, hs, hr, hs.belowAll h.tr hb0⟩
/-- a row that is none of the arena's, over a step of the arena -/
theorem rowU_step {v : Value} {xs : List Int} (hr : Kd.R (Kd.int .u32) 38 w 0 (fun k => ¬ F k) v xs) (hs : Ste w0 w w2 F F' p nodes nodes' empty empty' most) : Kd.R (Kd.int .u32) 38 w2 0 (fun k => ¬ F' k) v xs :=
  Kd.R_mono (Kd.R_step (Kd.R_bound hr) (fun k hk hlt => hs.keeps.block k hlt hk.1)) (fun k hk => fun hf => hk.1 ((hs.old k hk.2.2.1).1 hf))
end
set_option maxRecDepth 100000 in
set_option maxHeartbeats 4000000 in
theorem again_walk (raw other : List Rc) (rA oA : Option Addr) (rc oc : Nat) (w : World) (hR : Kd.C k30 w rA raw.length raw) (hrc : raw.length ≤ rc) (hO : Kd.C k30 w oA other.length other) (hoc : other.length ≤ oc) :
    Calls Try.prog 10 #[.slice rA raw.length rc, .slice oA other.length oc] w fun e w' => e = .returned (.bool true) ∧ Below w.heap.size w w' := by
  have hws := fun (w' : World) (hb : Below w.heap.size w w') => wide_walk raw rA rc w' (Kd.C_below hR hb) hrc
  have hwt := fun (w' : World) (hb : Below w.heap.size w w') => wide_walk other oA oc w' (Kd.C_below hO hb) hoc
  have hns := wide_near raw
  have hnt := wide_near other
  obtain ⟨s, hs⟩ : ∃ s, wideR raw = s := ⟨_, rfl⟩
  obtain ⟨t, ht⟩ : ∃ t, wideR other = t := ⟨_, rfl⟩
  simp only [hs] at hws hns
  simp only [ht] at hwt hnt
  have HWS := Aside0.mk hws
  have HWT := Aside0.mk hwt
  have HOT := Aside0.mk (fun A c w h1 h2 => own_near hnt A c w h1 h2)
  have HMK := Aside0.mk (fun A c w h1 h2 => (make_near (A := A) (c := c) (w := w) h1 h2 hns.len hns.bd).mono (fun _ _ h => make_roomy (by rw [List.length_map]; exact hns.len) h))
  have HBT := Aside0.mk (fun (w0 w : World) (F : Nat → Prop) (p N : Nat) (nodes : List Nd) (empty : List Int) (A : Option Addr) (c : Nat) (h : Roomy w0 w F p nodes empty N) (hN : N ≤ 200000) (hC : Kd.C k57 w A (t.map ownC).length (t.map ownC)) (hb : Below w0.heap.size w0 w) => build_ste h hN hnt A c hC hb)
  have HCS := Aside0.mk (fun (w0 w : World) (F : Nat → Prop) (p N : Nat) (nodes : List Nd) (empty : List Int) (i : Nat) (h : Roomy w0 w F p nodes empty N) (hN : N ≤ 200000) (hr : Rep nodes (rootQ (s.map ownC)) i) => cells_roomy h hN hns hr 100 (by omega))
  have HCT := Aside0.mk (fun (w0 w : World) (F : Nat → Prop) (p N : Nat) (nodes : List Nd) (empty : List Int) (i : Nat) (h : Roomy w0 w F p nodes empty N) (hN : N ≤ 200000) (hr : Rep nodes (rootQ (t.map ownC)) i) => cells_roomy h hN hnt hr 100 (by omega))
  have HAS := Aside0.mk (fun A B c d w h1 h2 h3 h4 => are_walk (s.map ownC) s (by have := hns.len; omega) A B c d w h1 h2 h3 h4)
  have HAT := Aside0.mk (fun A B c d w h1 h2 h3 h4 => are_walk (t.map ownC) t (by have := hnt.len; omega) A B c d w h1 h2 h3 h4)
  simp only [if_true] at HAS HAT
  generalize s.map ownC = S at *
  generalize t.map ownC = T at *
  generalize raw.length = rn at *
  generalize other.length = on at *
  clear hs ht hws hwt hns hnt hR hO hrc hoc
  go_enter Try.func10, Try.ntmps10
  go_upto_region 4 with (first
    | (go_at_call 41; refine (sawake_walk _).mono ?_; rintro e w1 ⟨rfl, hb1⟩; have HB1 := Aside0.mk hb1; clear hb1)
    | (go_at_call 22; with_reducible refine (HWS.out _ HB1.out).mono ?_; rintro e w2 ⟨sA, sc, rfl, hsc, hsC, hb2⟩; have HB2 := Aside0.mk (chain HB1.out hb2 HB1.out.size); have HSC := Aside0.mk hsC; have HSc := Aside0.mk hsc; clear hsc hsC hb2)
    | (go_at_call 22; with_reducible refine (HWT.out _ HB2.out).mono ?_; rintro e w3 ⟨tA, tc, rfl, htc, htC, hb3⟩; have HB3 := Aside0.mk (chain HB2.out hb3 HB2.out.size); have HSC3 := Aside0.mk (Kd.C_below HSC.out hb3); have HTC := Aside0.mk htC; have HTc := Aside0.mk htc; clear htc htC hb3))
  clear HWS HWT HB1 HB2 HSC
  go_upto_region 8 with (first
    | (go_at_call 23; with_reducible refine (HMK.out _ _ _ HSC3.out HSc.out).mono ?_; rintro e w4 ⟨p, F4, nodes4, empty4, x, rfl, hr4, hx4, hb4⟩; have HR4 := Aside0.mk hr4; have HX4 := Aside0.mk hx4; have HB4 := Aside0.mk hb4; clear hr4 hx4 hb4)
    | (go_at_call 25; with_reducible refine (HOT.out _ _ _ (Kd.C_below HTC.out HB4.out) HTc.out).mono ?_; rintro e w5 ⟨yA, yc, rfl, hyc, hyC, hb5⟩; have HR5 := Aside0.mk (HR4.out.below hb5); have HYC := Aside0.mk hyC; have HB5 := Aside0.mk (chain HB4.out hb5 HB4.out.size); clear hyc hyC hb5)
    | (go_at_call 24; with_reducible refine (HBT.out _ _ _ _ _ _ _ _ _ HR5.out (by omega) HYC.out HB5.out).mono ?_; rintro e w6 ⟨F6, nodes6, empty6, y, rfl, hr6, hs6, hy6, hb6⟩; have HR6 := Aside0.mk hr6; have HY6 := Aside0.mk hy6; have HX6 := Aside0.mk (hs6.rep HX4.out); have HB6 := Aside0.mk hb6; clear hr6 hs6 hy6 hb6))
  clear HR4 HX4 HR5 HYC HB4 HB5 HMK
  have HC1 := Aside0.mk (collect_roomy (HR6.out.below (below_alloc (Below.refl w6.heap.size w6) (.cells #[.int .u32 (x : Int), .int .u32 (y : Int)] 38))) (by omega) (some ⟨w6.heap.size, 0, none⟩) 2 [x, y] (lit_slice w6 (fun _ => True) [(x : Int), (y : Int)] (show 2 ≤ maxLen by decide) trivial) (fun r hr => by
    simp only [List.mem_cons, List.not_mem_nil, or_false] at hr
    rcases hr with rfl | rfl
    · exact HX6.out.lt
    · exact HY6.out.lt) (by simp))
  have HB7 := Aside0.mk (chain HB6.out (below_alloc (Below.refl w6.heap.size w6) (.cells #[.int .u32 (x : Int), .int .u32 (y : Int)] 38)) HB6.out.size)
  go_upto_region 9 with (go_at_call 45; refine HC1.out.mono ?_; rintro e w8 ⟨p2, F2, dst, js, A2, c2, rfl, hc2, hrow2⟩; have hl2 : js.length = 2 := hc2.len; rw [hl2] at hrow2 ⊢; obtain ⟨be, rfl, hcell, _⟩ := row_at hrow2 hl2 (by omega); have HRM2 := Aside0.mk hc2.room; have HZ2 := Aside0.mk hc2.zero; have HJ0 := Aside0.mk (hc2.rep 0 x _ rfl HX6.out); have ce := hcell 0 (by omega); have HB8 := Aside0.mk (chain HB7.out hc2.below HB7.out.size); clear hc2 hrow2 hcell hl2)
  generalize js.getD 0 0 = j0 at *
  clear HC1 HR6 HY6 HX6 HB6 HB7
  have HA8 := Aside0.mk (below_alloc (Below.refl w8.heap.size w8) (.cells #[.int .u32 (j0 : Int)] 38))
  have HRM8 := Aside0.mk (HRM2.out.below HA8.out)
  have HB8A := Aside0.mk (chain HB8.out HA8.out HB8.out.size)
  have HC3 := Aside0.mk (collect_roomy HRM8.out (by omega) (some ⟨w8.heap.size, 0, none⟩) 1 [j0] (lit_slice w8 (fun _ => True) [(j0 : Int)] (show 1 ≤ maxLen by decide) trivial) (fun r hr => by
    obtain rfl : r = j0 := List.mem_singleton.1 hr
    exact HJ0.out.lt) (by simp))
  go_upto_region 11 with (fail)
  go_upto_region 12 with (go_at_call 45; refine HC3.out.mono ?_; rintro e w9 ⟨p3, F3, dst3, js3, A3, c3, rfl, hc3, hrow3⟩; have hl3 : js3.length = 1 := hc3.len; rw [hl3] at hrow3 ⊢; obtain ⟨bf, rfl, hcell, _⟩ := row_at hrow3 hl3 (by omega); have HRM3 := Aside0.mk hc3.room; have HSM := Aside0.mk (hc3.small HZ2.out); have HK0 := Aside0.mk (hc3.rep 0 j0 _ rfl HJ0.out); have cf := hcell 0 (by omega); have HBA9 := Aside0.mk hc3.below; have HB9 := Aside0.mk (chain HB8A.out hc3.below HB8A.out.size); have HRM29 := Aside0.mk (HRM8.out.below hc3.below); clear hc3 hrow3 hcell hl3)
  generalize js3.getD 0 0 = k0 at *
  clear ce HC3 HRM2 HRM8 HZ2 HJ0 HB8 HA8
  have hle : ¬ ((dst.length : Int) < (dst3.length : Int)) := by have := HSM.out; omega
  have HLN3 := Aside0.mk (alen_walk F3 p3 dst3 [0, 0, 0] 1048576 w9 HRM3.out.tr.hold.ar)
  have HLN2 := Aside0.mk (alen_walk F2 p2 dst [0, 0, 0] 1048576 w9 HRM29.out.tr.hold.ar)
  generalize w8.alloc (.cells #[.int .u32 (j0 : Int)] 38) = w8a at *
  generalize (dst.length : Int) = dl at *
  generalize hd3 : (dst3.length : Int) = dl3 at *
  clear hd3
  have HA9 := Aside0.mk (below_alloc (Below.refl w9.heap.size w9) (.cells #[.int .u32 (k0 : Int)] 38))
  have HRM3A := Aside0.mk (HRM3.out.below HA9.out)
  have HBA9A := Aside0.mk (chain HBA9.out HA9.out HBA9.out.size)
  have HB9A := Aside0.mk (chain HB9.out HA9.out HB9.out.size)
  have HC4 := Aside0.mk (collect_roomy HRM3A.out (by omega) (some ⟨w9.heap.size, 0, none⟩) 1 [k0] (lit_slice w9 (fun _ => True) [(k0 : Int)] (show 1 ≤ maxLen by decide) trivial) (fun r hr => by
    obtain rfl : r = k0 := List.mem_singleton.1 hr
    exact HK0.out.lt) (by simp))
  go_upto_region 14 with (first
    | (go_at_call 26; with_reducible refine HLN3.out.mono ?_; rintro e w ⟨rfl, rfl⟩)
    | (go_at_call 26; with_reducible refine HLN2.out.mono ?_; rintro e w ⟨rfl, rfl⟩))
  clear hle HLN3 HLN2 HSM HRM29 HBA9 HB9
  go_upto_region 15 with (go_at_call 45; refine HC4.out.mono ?_; rintro e w10 ⟨p4, F4, dst4, js4, A4, c4, rfl, hc4, hrow4⟩; have hl4 : js4.length = 1 := hc4.len; rw [hl4] at hrow4 ⊢; have HL4 := Aside0.mk hl4; have HRM4 := Aside0.mk hc4.room; have HN0 := Aside0.mk (hc4.rep 0 k0 _ rfl HK0.out); have HC4A := Aside0.mk hc4; have HBA10 := Aside0.mk (chain HBA9A.out hc4.below HBA9A.out.size); have HB10 := Aside0.mk (chain HB9A.out hc4.below HB9A.out.size); have HRM310 := Aside0.mk (HRM3A.out.below hc4.below); have HD43 := Aside0.mk (show ∀ k, F4 k → ¬ F3 k from fun k h4 h3 => by have e1 := hc4.room.tr.hold.lo k h4; have e2 := HRM3A.out.tr.hold.hi k h3; omega); have HR4 := Aside0.mk (show Kd.R (Kd.int .u32) 38 w10 0 (fun k => ¬ F3 k) (.slice A4 1 c4) (uRow js4) from Kd.R_mono hrow4 (fun k hk h3 => by have e1 := hk.1; have e2 := HRM3A.out.tr.hold.hi k h3; omega)); clear hc4 hrow4 hl4)
  clear cf HC4 HRM3 HRM3A HK0 HBA9A HB9A HA9
  generalize w9.alloc (.cells #[.int .u32 (k0 : Int)] 38) = w9a at *
  go_upto_region 18 with (first
    | (go_at_call 25; with_reducible refine (HOT.out _ _ _ (Kd.C_below HTC.out HB10.out) HTc.out).mono ?_; rintro e w11 ⟨yA, yc, rfl, hyc, hyC, hb11⟩; have HRM311 := Aside0.mk (HRM310.out.below hb11); have HRM411 := Aside0.mk (HRM4.out.below hb11); have HYC := Aside0.mk hyC; have HBA11 := Aside0.mk (chain HBA10.out hb11 HBA10.out.size); have HB11 := Aside0.mk (chain HB10.out hb11 HB10.out.size); have HR411 := Aside0.mk (Kd.R_below HR4.out hb11); clear hyc hyC hb11)
    | (go_at_call 24; with_reducible refine (HBT.out _ _ _ _ _ _ _ _ _ HRM311.out (by omega) HYC.out HBA11.out).mono ?_; rintro e w12 ⟨F12, nodes12, empty12, z, rfl, hr12, hs12, hz12, hb12⟩; have HRM312 := Aside0.mk hr12; have HZ12 := Aside0.mk hz12; have HRM412 := Aside0.mk (HRM411.out.other hs12.keeps HD43.out); have HR412 := Aside0.mk (rowU_step HR411.out hs12); have HB12 := Aside0.mk (HB11.out.trans (hs12.keeps.below (fun k hk => Nat.le_trans HB8A.out.size (HRM311.out.tr.hold.lo k hk)) HB11.out.size)); clear hr12 hs12 hz12 hb12))
  clear HRM310 HRM4 HRM311 HRM411 HYC HBA10 HBA11 HB10 HB11 HR4 HR411 HOT HBT HD43
  obtain ⟨bg, rfl, hcell, _⟩ := row_at HR412.out HL4.out (by omega)
  have cg := hcell 0 (by omega)
  have HQ0 := Aside0.mk HN0.out
  clear HR412 hcell
  generalize hk4 : js4.getD 0 0 = n0 at *
  have HJ4 := Aside0.mk hk4
  clear hk4
  go_upto_region 20 with (first
    | (go_at_call 27; with_reducible refine (HCT.out _ _ _ _ _ _ _ _ HRM312.out (by omega) HZ12.out).mono ?_; rintro e w13 ⟨gA, gc, rfl, hgc, hgC, hb13⟩; have HRM413 := Aside0.mk (HRM412.out.below hb13); have HB13 := Aside0.mk (chain HB12.out hb13 HB12.out.size); have HGC := Aside0.mk hgC; have HGc := Aside0.mk hgc; have HCG := Aside0.mk (pw_cell_below hb13 cg); replace cg := HCG.out; clear hgc hgC hb13)
    | (go_at_call 27; with_reducible refine (HCS.out _ _ _ _ _ _ _ _ HRM413.out (by omega) HQ0.out).mono ?_; rintro e w14 ⟨oA, oc, rfl, hoc, hoC, hb14⟩; have HRM414 := Aside0.mk (HRM413.out.below hb14); have HB14 := Aside0.mk (chain HB13.out hb14 HB13.out.size); have HGC14 := Aside0.mk (Kd.C_below HGC.out hb14); have HOC := Aside0.mk hoC; have HOc := Aside0.mk hoc; replace cg := pw_cell_below hb14 cg; clear hoc hoC hb14))
  clear HRM412 HRM413 HRM312 HZ12 HB12 HB13 HGC HCT HCS HCG HN0
  have HA14 := Aside0.mk (below_alloc (Below.refl w14.heap.size w14) (.cells #[.int .u32 (n0 : Int)] 38))
  have HRM14 := Aside0.mk (HRM414.out.below HA14.out)
  have HRE := Aside0.mk (reach_roomy HRM14.out (by omega) (some ⟨w14.heap.size, 0, none⟩) 1 [n0] (Kd.R_reads' (lit_slice w14 (fun _ => True) [(n0 : Int)] (show 1 ≤ maxLen by decide) trivial)).2.2 (fun r hr => by
    obtain rfl : r = n0 := List.mem_singleton.1 hr
    exact HQ0.out.lt))
  have HGC14A := Aside0.mk (Kd.C_below HGC14.out HA14.out)
  have HOC14A := Aside0.mk (Kd.C_below HOC.out HA14.out)
  have HB14A := Aside0.mk (chain HB14.out HA14.out HB14.out.size)
  go_upto_region 21 with (go_at_call 44; refine HRE.out.mono ?_; rintro e w15 ⟨S', hS, rfl, hb15⟩; have HSS := Aside0.mk hS; have HB15 := Aside0.mk (chain HB14A.out hb15 HB14A.out.size); have HGC15 := Aside0.mk (Kd.C_below HGC14A.out hb15); have HOC15 := Aside0.mk (Kd.C_below HOC14A.out hb15); have HRM415 := Aside0.mk (HRM14.out.below hb15); clear hS hb15)
  have hcnt := reach_all HC4A.out rfl (by rw [HJ4.out]; exact HQ0.out) (by rw [HJ4.out]; exact HSS.out)
  have hbig := HRM415.out.len
  clear HRE HC4A HSS HQ0 HJ4 HGC14A HOC14A HB14A HB14 HGC14 HOC HRM414 HRM14 HA14 cg
  generalize w14.alloc (.cells #[.int .u32 (n0 : Int)] 38) = w14a at *
  obtain ⟨sl, hsl⟩ : ∃ x : Int, (S'.length : Int) = x := ⟨_, rfl⟩
  obtain ⟨dl4, hd4⟩ : ∃ x : Int, (dst4.length : Int) = x := ⟨_, rfl⟩
  rw [hsl]
  have hwr : dl4 = sl ∨ (dl4 = sl + 1 ∧ IntKind.i64.wrap (sl + 1) = dl4) := by
    rw [IntKind.wrap_i64]
    omega
  clear hsl hcnt hbig
  rcases hwr with rfl | ⟨hx, hwr⟩
  · go_wp2_with (first
      | (go_at_call 28; with_reducible refine (HAT.out _ _ _ _ _ HGC15.out HGc.out (Kd.C_below HTC.out HB15.out) HTc.out).mono ?_; rintro e w16 ⟨rfl, hb16⟩; have HB16 := Aside0.mk (chain HB15.out hb16 HB15.out.size); have HOC16 := Aside0.mk (Kd.C_below HOC15.out hb16); have HRM416 := Aside0.mk (HRM415.out.below hb16); clear hb16)
      | (go_at_call 28; with_reducible refine (HAS.out _ _ _ _ _ HOC16.out HOc.out (Kd.C_below HSC3.out HB16.out) HSc.out).mono ?_; rintro e w17 ⟨rfl, hb17⟩; have HB17 := Aside0.mk (chain HB16.out hb17 HB16.out.size); have HLN4 := Aside0.mk (alen_walk F4 p4 dst4 [0, 0, 0] 1048576 w17 (HRM416.out.below hb17).tr.hold.ar); rw [hd4] at HLN4; clear hb17)
      | (go_at_call 26; with_reducible refine HLN4.out.mono ?_; rintro e w18 ⟨rfl, rfl⟩))
    refine bodyPost_ret (v := .bool true) (by simp [results, Try.results10, go_sem]) rfl ?_
    exact ⟨rfl, chain HB3.out HB17.out HB3.out.size⟩
  · have hne : (dl4 == sl) = false := by rw [beq_eq_false_iff_ne]; omega
    clear hx
    go_wp2_with (first
      | (go_at_call 28; with_reducible refine (HAT.out _ _ _ _ _ HGC15.out HGc.out (Kd.C_below HTC.out HB15.out) HTc.out).mono ?_; rintro e w16 ⟨rfl, hb16⟩; have HB16 := Aside0.mk (chain HB15.out hb16 HB15.out.size); have HOC16 := Aside0.mk (Kd.C_below HOC15.out hb16); have HRM416 := Aside0.mk (HRM415.out.below hb16); clear hb16)
      | (go_at_call 28; with_reducible refine (HAS.out _ _ _ _ _ HOC16.out HOc.out (Kd.C_below HSC3.out HB16.out) HSc.out).mono ?_; rintro e w17 ⟨rfl, hb17⟩; have HB17 := Aside0.mk (chain HB16.out hb17 HB16.out.size); have HLN4 := Aside0.mk (alen_walk F4 p4 dst4 [0, 0, 0] 1048576 w17 (HRM416.out.below hb17).tr.hold.ar); rw [hd4] at HLN4; clear hb17)
      | (go_at_call 26; with_reducible refine HLN4.out.mono ?_; rintro e w18 ⟨rfl, rfl⟩))
    refine bodyPost_ret (v := .bool true) (by simp [results, Try.results10, go_sem]) rfl ?_
    exact ⟨rfl, chain HB3.out HB17.out HB3.out.size⟩
theorem again_law (rA oA : Option Addr) (rn rc on oc : Nat) (raw other : List Rc) (w : World) (hrl : raw.length = rn) (hR : Kd.C k30 w rA rn raw) (hrc : rn ≤ rc) (hol : other.length = on) (hO : Kd.C k30 w oA on other) (hoc : on ≤ oc) :
    Calls Try.prog 10 #[.slice rA rn rc, .slice oA on oc] w fun e w' => e = .returned (.bool true) ∧ Below w.heap.size w w' := by
  subst hrl hol
  exact again_walk raw other rA oA rc oc w hR hrc hO hoc
end Go.Proofs.Ytbkbkgfpnefilaa.tr
