/- What the law AxisGroup answers: the walk. -/
import Derived.Test.YtjpcdlnhpaigkaaDoorAxJ
import Derived.Deep.RegionHeld3
import Derived.Deep.DeepCutAuto
namespace Go.Proofs.YtjpcdlnhpaigkaaDoor.ax
open Go.ChangeShapes Go.WideShapes Go.ChangeAt Go.RowKit

/-- what a call leaves of a block, if that was there -/
theorem atc {X w1 : World} (b : Nat) (hb : Below X.heap.size X w1) :
    (∀ o, b < X.heap.size → w1.cell? ⟨b, o, none⟩ = X.cell? ⟨b, o, none⟩) ∧ (∀ o, b < X.heap.size → w1.frozen? ⟨b, o, none⟩ = X.frozen? ⟨b, o, none⟩) ∧ (b < X.heap.size → b < w1.heap.size) :=
  ⟨fun o h => hb.cell (p := ⟨b, o, none⟩) h, fun o h => hb.frozen (p := ⟨b, o, none⟩) h, fun h => Nat.lt_of_lt_of_le h hb.size⟩

set_option maxRecDepth 100000 in
set_option maxHeartbeats 8000000 in
theorem group_walk (a b c k u v : Int) (w : World) (hS : SixAt w) :
    Calls Tryd.prog 8 #[.int .i64 a, .int .i64 b, .int .i64 c, .int .i64 k, .agg #[.int .i64 u, .int .i64 v]] w fun e w' => e = .returned (.bool true) ∧ Below w.heap.size w w' := by
  have HS := Lib.hid hS
  clear hS
  have ha := bs.and255 a
  have hb := bs.and255 b
  have hc := bs.and255 c
  have hk := bs.and255 k
  have hu := bs.tmod_bd u 274877906944 (by decide)
  have hv := bs.tmod_bd v 274877906944 (by decide)
  have bx : 0 ≤ a % 256 % 12 ∧ a % 256 % 12 ≤ 11 := by omega
  have by' : 0 ≤ b % 256 % 12 ∧ b % 256 % 12 ≤ 11 := by omega
  have bz : 0 ≤ c % 256 % 12 ∧ c % 256 % 12 ≤ 11 := by omega
  have bi : 0 ≤ k % 256 % 6 ∧ k % 256 % 6 ≤ 5 := by omega
  obtain ⟨x, hx⟩ : ∃ x, a % 256 % 12 = x := ⟨_, rfl⟩
  obtain ⟨y, hy⟩ : ∃ y, b % 256 % 12 = y := ⟨_, rfl⟩
  obtain ⟨z, hz⟩ : ∃ z, c % 256 % 12 = z := ⟨_, rfl⟩
  obtain ⟨i, hi⟩ : ∃ i, k % 256 % 6 = i := ⟨_, rfl⟩
  obtain ⟨p, hp⟩ : ∃ p, u.tmod 274877906944 = p := ⟨_, rfl⟩
  obtain ⟨q, hq⟩ : ∃ q, v.tmod 274877906944 = q := ⟨_, rfl⟩
  rw [hx] at bx
  rw [hy] at by'
  rw [hz] at bz
  rw [hi] at bi
  rw [hp] at hu
  rw [hq] at hv
  have Hx := Lib.hid bx
  have Hy := Lib.hid by'
  have Hz := Lib.hid bz
  have Hi := Lib.hid bi
  have hass := then_assoc x y z bx by' bz
  obtain ⟨tb1, tb2, tb3, bb⟩ := then_back x bx
  have bb := Lib.hid bb
  have bxy := Lib.hid (thenV_bd x y bx by')
  have byz := Lib.hid (thenV_bd y z by' bz)
  have n1 := img_bd x p q 274877906944 bx (by omega) (by omega)
  have n2 := img_bd y (img x p q).1 (img x p q).2 549755813888 by' (by omega) (by omega)
  have hth := Lib.hid (img_then x y p q bx by')
  have n3 := img_bd (thenV x y) p q 274877906944 bxy.out (by omega) (by omega)
  have s1 := six_bd i bi
  have n4 := img_bd x (p + sixA i) (q + sixB i) 274877906945 bx (by omega) (by omega)
  have hadd := Lib.hid (img_add x p q (sixA i) (sixB i))
  obtain ⟨j, j1, j2, j3, j4⟩ := there x i bx bi
  have Hj2 := Lib.hid j2
  have Hj3 := Lib.hid j3
  have Hj4 := Lib.hid j4
  clear j2 j3 j4
  clear bx by' bz bi
  go_enter Tryd.func8, Tryd.ntmps8
  go_wp2_with (first | (go_at_call 9; refine (awake_walk _ (HS.out.below (by (repeat' (first | (with_reducible exact Below.refl _ _) | (with_reducible assumption) | (with_reducible refine Below.alloc ?_ ?_ _) | (with_reducible refine Below.drew ?_) | (with_reducible refine Below.setCell ?_ ?_ _) | (with_reducible refine chain ?_ (by assumption) ?_) | go_size))))).mono ?_; rintro e w1 ⟨rfl, hb⟩; have hz := hb.size; (try simp only [World.size_alloc, World.size_setCell, World.size_drew, World.heap_drewN] at hz); obtain ⟨_, _, _⟩ := at_ (w.heap.size) hb (by go_size)))
  go_wp2_with (first | (go_at_call 19; refine (rthen_walk x y _ Hx.out Hy.out).mono ?_; rintro e w2 ⟨rfl, hb⟩; (have hz := hb.size; (try simp only [World.size_alloc, World.size_setCell, World.size_drew, World.heap_drewN] at hz); obtain ⟨_, _, _⟩ := at_ (w.heap.size) hb (by go_size))) | (go_at_call 18; refine (then_walk _ _ _ (by first | exact Hx.out | exact Hy.out | exact Hz.out | exact bxy.out | exact byz.out | exact bb.out | decide) (by first | exact Hx.out | exact Hy.out | exact Hz.out | exact bxy.out | exact byz.out | exact bb.out | decide)).mono ?_; rintro e w1 ⟨rfl, rfl⟩) | (go_at_call 20; refine (back_walk x _ Hx.out).mono ?_; rintro e w1 ⟨rfl, rfl⟩))
  refine (on_ok _ _ _ _ (ogood_mk Hx.out) (good_mk (by omega)) (good_mk (by omega))).mono ?_; rintro e w3 ⟨rfl, hb⟩; simp only [ptV]; have hz := hb.size; (try simp only [World.size_alloc, World.size_setCell, World.size_drew, World.heap_drewN] at hz); obtain ⟨_, _, _⟩ := at_ (w.heap.size) hb (by go_size)
  go_wp2_with (fail)
  refine (on_ok _ _ _ _ (ogood_mk Hy.out) (good_mk (by omega)) (good_mk (by omega))).mono ?_; rintro e w4 ⟨rfl, hb⟩; simp only [ptV, hth.out]; have hz := hb.size; (try simp only [World.size_alloc, World.size_setCell, World.size_drew, World.heap_drewN] at hz); obtain ⟨_, _, _⟩ := at_ (w.heap.size) hb (by go_size); obtain ⟨_, _, _⟩ := at_ (w3.heap.size) hb (by go_size)
  go_upto_region 9 with (fail)
  go_cut [18, 19] (fun s18 s19 wx => ∃ g : Nat, s18 = .pointer (some ⟨g, 0, none⟩) ∧ s19 = .nilIface ∧ g < wx.heap.size ∧ wx.cell? ⟨g, 0, none⟩ = some (.int .i64 (img (thenV x y) p q).1) ∧ wx.cell? ⟨g, 1, none⟩ = some (.int .i64 (img (thenV x y) p q).2) ∧ Below (w4.alloc (.cells #[.int .i64 (img (thenV x y) p q).1, .int .i64 (img (thenV x y) p q).2] 24)).heap.size (w4.alloc (.cells #[.int .i64 (img (thenV x y) p q).1, .int .i64 (img (thenV x y) p q).2] 24)) wx)
  case first =>
    go_region_held3 (fun w' => w'.cell? ⟨w.heap.size, 0, none⟩ = some (.int .i64 p) ∧ w'.cell? ⟨w.heap.size, 1, none⟩ = some (.int .i64 q)) (simp (maxDischargeDepth := 6) [go_sem, *]) (first | (go_at_call 18; refine (then_walk _ _ _ (by first | exact Hx.out | exact Hy.out | exact Hz.out | exact bxy.out | exact byz.out | exact bb.out | decide) (by first | exact Hx.out | exact Hy.out | exact Hz.out | exact bxy.out | exact byz.out | exact bb.out | decide)).mono ?_; rintro e w1 ⟨rfl, rfl⟩) | (go_at_call 10; refine (on_ok _ _ _ _ (ogood_mk bxy.out) (good_mk (by omega)) (good_mk (by omega))).mono ?_; rintro e w5 ⟨rfl, hb⟩; simp only [ptV]; have hz := hb.size; (try simp only [World.size_alloc, World.size_setCell, World.size_drew, World.heap_drewN] at hz); obtain ⟨_, _, _⟩ := at_ (w.heap.size) hb (by go_size); obtain ⟨_, _, _⟩ := at_ (w3.heap.size) hb (by go_size); obtain ⟨_, _, _⟩ := atc (w4.heap.size + 1) hb))
    all_goals go_wp2_with (fail)
    all_goals go_meet
    all_goals refine ⟨_, rfl, rfl, by go_size, ?_, ?_, by (repeat' (first | (with_reducible exact Below.refl _ _) | (with_reducible assumption) | (with_reducible refine Below.alloc ?_ ?_ _) | (with_reducible refine Below.drew ?_) | (with_reducible refine Below.setCell ?_ ?_ _) | (with_reducible refine chain ?_ (by assumption) ?_) | go_size))⟩
    all_goals simp (maxDischargeDepth := 6) [go_sem, *]
  case rest =>
    obtain ⟨g, rfl, rfl, hg, h0, h1, hb⟩ := hcut
    have hz := hb.size; (try simp only [World.size_alloc, World.size_setCell, World.size_drew, World.heap_drewN] at hz); obtain ⟨_, _, _⟩ := at_ (w.heap.size) hb (by go_size); obtain ⟨_, _, _⟩ := at_ (w3.heap.size) hb (by go_size); obtain ⟨_, _, _⟩ := at_ (w4.heap.size) hb (by go_size)
    have hidx := six_index i Hi.out
    simp only [sixV] at hidx
    have hti : (k % 256).tmod 6 = i := by rw [Int.tmod_eq_emod_of_nonneg (by omega)]; exact hi
    obtain ⟨wa, rfl⟩ : ∃ wa : World, wa = wc := ⟨_, rfl⟩
    have hp0 : wa.cell? ⟨w.heap.size, 0, none⟩ = some (.int .i64 p) := by simp (maxDischargeDepth := 6) [go_sem, *]
    have hq0 : wa.cell? ⟨w.heap.size, 1, none⟩ = some (.int .i64 q) := by simp (maxDischargeDepth := 6) [go_sem, *]
    go_upto_region 10 with (fail)
    go_cut [20, 21] (fun s20 s21 wx => ∃ h : Nat, s20 = .pointer (some ⟨h, 0, none⟩) ∧ s21 = .nilIface ∧ h < wx.heap.size ∧ wx.cell? ⟨h, 0, none⟩ = some (.int .i64 (p + sixA i)) ∧ wx.cell? ⟨h, 1, none⟩ = some (.int .i64 (q + sixB i)) ∧ Below wa.heap.size wa wx)
    case first =>
      go_region_held3 (fun w' => w'.cell? ⟨w.heap.size, 0, none⟩ = some (.int .i64 p) ∧ w'.cell? ⟨w.heap.size, 1, none⟩ = some (.int .i64 q)) (simp (maxDischargeDepth := 6) [go_sem, *]) (first | (go_at_call 21; refine (six_walk _ (HS.out.below (by (repeat' (first | (with_reducible exact Below.refl _ _) | (with_reducible assumption) | (with_reducible refine Below.alloc ?_ ?_ _) | (with_reducible refine Below.drew ?_) | (with_reducible refine Below.setCell ?_ ?_ _) | (with_reducible refine chain ?_ (by assumption) ?_) | go_size)))).1 (HS.out.below (by (repeat' (first | (with_reducible exact Below.refl _ _) | (with_reducible assumption) | (with_reducible refine Below.alloc ?_ ?_ _) | (with_reducible refine Below.drew ?_) | (with_reducible refine Below.setCell ?_ ?_ _) | (with_reducible refine chain ?_ (by assumption) ?_) | go_size)))).2).mono ?_; rintro e w5 ⟨rfl, hb⟩; have hz := hb.size; (try simp only [World.size_alloc, World.size_setCell, World.size_drew, World.heap_drewN] at hz); obtain ⟨_, _, _⟩ := at_ (w.heap.size) hb (by go_size); obtain ⟨_, _, _⟩ := atc wa.heap.size hb) | (go_at_call 15; refine (plus_ok _ _ _ _ _ (good_mk (by omega)) (good_mk (by omega)) (good_mk (by omega))).mono ?_; rintro e w6 ⟨rfl, hb⟩; simp only [ptV]; have hz := hb.size; (try simp only [World.size_alloc, World.size_setCell, World.size_drew, World.heap_drewN] at hz); obtain ⟨_, _, _⟩ := at_ (w.heap.size) hb (by go_size); obtain ⟨_, _, _⟩ := atc wa.heap.size hb; obtain ⟨_, _, _⟩ := atc w5.heap.size hb))
      all_goals go_wp2_with (fail)
      all_goals go_meet
      all_goals refine ⟨_, rfl, rfl, by go_size, ?_, ?_, by (repeat' (first | (with_reducible exact Below.refl _ _) | (with_reducible assumption) | (with_reducible refine Below.alloc ?_ ?_ _) | (with_reducible refine Below.drew ?_) | (with_reducible refine Below.setCell ?_ ?_ _) | (with_reducible refine chain ?_ (by assumption) ?_) | go_size))⟩
      all_goals simp (maxDischargeDepth := 6) [go_sem, *]
    case rest =>
      obtain ⟨h, rfl, rfl, hh, h2, h3, hb⟩ := hcut
      have hz := hb.size; (try simp only [World.size_alloc, World.size_setCell, World.size_drew, World.heap_drewN] at hz); obtain ⟨_, _, _⟩ := at_ (w.heap.size) hb (by go_size); obtain ⟨_, _, _⟩ := at_ (w3.heap.size) hb (by go_size); obtain ⟨_, _, _⟩ := at_ (w4.heap.size) hb (by go_size); obtain ⟨_, _, _⟩ := at_ (g) hb (by go_size)
      obtain ⟨wb, rfl⟩ : ∃ wb : World, wb = wc := ⟨_, rfl⟩
      go_wp2_with (fail)
      refine (on_ok _ _ _ _ (ogood_mk Hx.out) (good_mk (by omega)) (good_mk (by omega))).mono ?_; rintro e w7 ⟨rfl, hb⟩; simp only [ptV, hadd.out]; have hz := hb.size; (try simp only [World.size_alloc, World.size_setCell, World.size_drew, World.heap_drewN] at hz); obtain ⟨_, _, _⟩ := at_ (w3.heap.size) hb (by go_size); obtain ⟨_, _, _⟩ := at_ (w4.heap.size) hb (by go_size); obtain ⟨_, _, _⟩ := at_ (g) hb (by go_size)
      go_wp2_with (fail)
      refine (six_walk _ (HS.out.below (by (repeat' (first | (with_reducible exact Below.refl _ _) | (with_reducible assumption) | (with_reducible refine Below.alloc ?_ ?_ _) | (with_reducible refine Below.drew ?_) | (with_reducible refine Below.setCell ?_ ?_ _) | (with_reducible refine chain ?_ (by assumption) ?_) | go_size)))).1 (HS.out.below (by (repeat' (first | (with_reducible exact Below.refl _ _) | (with_reducible assumption) | (with_reducible refine Below.alloc ?_ ?_ _) | (with_reducible refine Below.drew ?_) | (with_reducible refine Below.setCell ?_ ?_ _) | (with_reducible refine chain ?_ (by assumption) ?_) | go_size)))).2).mono ?_; rintro e w8 ⟨rfl, hb⟩; have hz := hb.size; (try simp only [World.size_alloc, World.size_setCell, World.size_drew, World.heap_drewN] at hz); obtain ⟨_, _, _⟩ := at_ (w3.heap.size) hb (by go_size); obtain ⟨_, _, _⟩ := at_ (w7.heap.size) hb (by go_size)
      have o1 : w8.cell? ⟨w3.heap.size, 0, none⟩ = some (.int .i64 (img x p q).1) := by simp (maxDischargeDepth := 6) [go_sem, *]
      have o2 : w8.cell? ⟨w3.heap.size, 1, none⟩ = some (.int .i64 (img x p q).2) := by simp (maxDischargeDepth := 6) [go_sem, *]
      have o3 : w8.cell? ⟨w7.heap.size, 0, none⟩ = some (.int .i64 ((img x p q).1 + (img x (sixA i) (sixB i)).1)) := by simp (maxDischargeDepth := 6) [go_sem, *]
      have o4 : w8.cell? ⟨w7.heap.size, 1, none⟩ = some (.int .i64 ((img x p q).2 + (img x (sixA i) (sixB i)).2)) := by simp (maxDischargeDepth := 6) [go_sem, *]
      have o5 : w3.heap.size < w8.heap.size := by go_size
      have o6 : w7.heap.size < w8.heap.size := by go_size
      have BW : Below w.heap.size w w8 := by (repeat' (first | (with_reducible exact Below.refl _ _) | (with_reducible assumption) | (with_reducible refine Below.alloc ?_ ?_ _) | (with_reducible refine Below.drew ?_) | (with_reducible refine Below.setCell ?_ ?_ _) | (with_reducible refine chain ?_ (by assumption) ?_) | go_size))
      have e1 := Hj2.out
      have e2 := Hj3.out
      have HE := Lib.hid (And.intro e1 e2)
      clear e1 e2
      go_wp2_with (fail)
      go_loopw [147] (fun c wr => ∃ m : Nat, m ≤ j ∧ c = .int .i64 m ∧ Below w8.heap.size w8 wr) (fun c _ => 6 - (intOf c).toNat)
      case atStart => exact ⟨0, by omega, rfl, Below.refl _ _⟩
      case round =>
        obtain ⟨m, hm, rfl, hb⟩ := hrel
        have hz := hb.size
        have z3 : w3.heap.size < wr.heap.size := by omega
        have z7 : w7.heap.size < wr.heap.size := by omega
        have q1 : wr.cell? ⟨w3.heap.size, 0, none⟩ = some (.int .i64 (img x p q).1) := (hb.cell (p := ⟨w3.heap.size, 0, none⟩) o5).trans o1
        have q2 : wr.cell? ⟨w3.heap.size, 1, none⟩ = some (.int .i64 (img x p q).2) := (hb.cell (p := ⟨w3.heap.size, 1, none⟩) o5).trans o2
        have q3 : wr.cell? ⟨w7.heap.size, 0, none⟩ = some (.int .i64 ((img x p q).1 + (img x (sixA i) (sixB i)).1)) := (hb.cell (p := ⟨w7.heap.size, 0, none⟩) o6).trans o3
        have q4 : wr.cell? ⟨w7.heap.size, 1, none⟩ = some (.int .i64 ((img x p q).2 + (img x (sixA i) (sixB i)).2)) := (hb.cell (p := ⟨w7.heap.size, 1, none⟩) o6).trans o4
        have hidx2 := six_index m (by omega)
        simp only [sixV] at hidx2
        have s2 := six_bd m (by omega)
        have BW2 : Below w.heap.size w wr := by (repeat' (first | (with_reducible exact Below.refl _ _) | (with_reducible assumption) | (with_reducible refine Below.alloc ?_ ?_ _) | (with_reducible refine Below.drew ?_) | (with_reducible refine Below.setCell ?_ ?_ _) | (with_reducible refine chain ?_ (by assumption) ?_) | go_size))
        by_cases hmj : m < j
        · have hne := Lib.hid (Hj4.out m hmj)
          go_wp2_with (fail)
          refine (plus_ok _ _ _ _ _ (good_mk (by omega)) (good_mk (by omega)) (good_mk (by omega))).mono ?_; rintro e w9 ⟨rfl, hb⟩; simp only [ptV]; have hz := hb.size; (try simp only [World.size_alloc, World.size_setCell, World.size_drew, World.heap_drewN] at hz); obtain ⟨_, _, _⟩ := at_ (w7.heap.size) hb (by go_size)
          go_wp2_with (fail)
          · exact (hne.out ⟨‹_›, ‹_›⟩).elim
          all_goals exact ⟨⟨m + 1, by omega, by go_num, by (repeat' (first | (with_reducible exact Below.refl _ _) | (with_reducible assumption) | (with_reducible refine Below.alloc ?_ ?_ _) | (with_reducible refine Below.drew ?_) | (with_reducible refine Below.setCell ?_ ?_ _) | (with_reducible refine chain ?_ (by assumption) ?_) | go_size))⟩, by simp [intOf]; omega⟩
        · obtain rfl : m = j := by omega
          rw [← HE.out.1] at q3
          rw [← HE.out.2] at q4
          go_wp2_with (fail)
          refine (plus_ok _ _ _ _ _ (good_mk (by omega)) (good_mk (by omega)) (good_mk (by omega))).mono ?_; rintro e w9 ⟨rfl, hb⟩; simp only [ptV]; have hz := hb.size; (try simp only [World.size_alloc, World.size_setCell, World.size_drew, World.heap_drewN] at hz); obtain ⟨_, _, _⟩ := at_ (w7.heap.size) hb (by go_size)
          go_wp2_with (fail)
          go_ret
          exact ⟨rfl, by (repeat' (first | (with_reducible exact Below.refl _ _) | (with_reducible assumption) | (with_reducible refine Below.alloc ?_ ?_ _) | (with_reducible refine Below.drew ?_) | (with_reducible refine Below.setCell ?_ ?_ _) | (with_reducible refine chain ?_ (by assumption) ?_) | go_size))⟩
end Go.Proofs.YtjpcdlnhpaigkaaDoor.ax
