/- The law ArenaEmpties: nodes without cells. -/
import Derived.Test.YtbeijhjafmalgaaDoorArEmpPure
import Derived.Test.YtbeijhjafmalgaaDoorArNone
namespace Go.Proofs.YtbeijhjafmalgaaDoor.ar
open Go.RowKit Go.Proofs.YtbeijhjafmalgaaDoorW.PrintWords Go.Proofs.YtbeijhjafmalgaaDoorW.PrintLast Go.Proofs.YtbeijhjafmalgaaDoorW.PrintMore Go.Proofs.YtbeijhjafmalgaaDoor.bs Go.ChangeShapes Go.Proofs.YtbeijhjafmalgaaDoor.lb

theorem eqInArr4 (w : World) (m : Int) :
    (Op.equalIn 10000 32 (.agg #[.int .u32 m, .int .u32 m, .int .u32 m, .int .u32 m]) (.agg #[.int .u32 m, .int .u32 m, .int .u32 m, .int .u32 m])).run Tryd.prog w = .ok true w := by
  rw [show 10000 = 9998 + 2 from rfl, eqArr4]
  simp
attribute [local go_sem high] eqlArr4 guardArr4 eqInArr4
set_option maxRecDepth 100000 in
set_option maxHeartbeats 4000000 in
theorem empties_walk (level : Int) (hl0 : -9223372036854775808 ≤ level) (hl1 : level ≤ 9223372036854775807) (w : World) (hE : ec.ErrAt w) : Calls Tryd.prog 4 #[.int .i64 level] w fun e w' => e = .returned (.bool true) ∧ Below w.heap.size w w' := by
  have HE := Aside0.mk hE
  clear hE
  go_enter Tryd.func4, Tryd.ntmps4
  go_wp2_with (fail)
  refine (awake_walk w).mono ?_
  rintro e w1 ⟨rfl, hb⟩
  have B1 := Aside0.mk hb
  clear hb
  go_wp2_with (fail)
  refine (own_new 1000 (by omega) w1).mono ?_
  rintro e w2 ⟨p, rfl, hA⟩
  rw [show max (1000 : Int) 64 = 1000 by rfl] at hA
  have A2 := Aside0.mk (hA.elder B1.out)
  clear hA
  by_cases h2 : level < 2
  · as_aux_lemma =>
    have hr : emptyN [nd0] [0, 0, 0] 1000 level = ([nd0], [0, 0, 0], 0, 4) := if_pos h2
    have hw := own_empty A2.out level (emOk0 _) (by simp)
    rw [hr] at hw
    go_wp2_with (fail)
    refine hw.mono ?_
    rintro e w3 ⟨rfl, hA⟩
    dsimp only at hA ⊢
    rw [show errOf 4 = .iface 38 (.int .i64 4) from rfl]
    have A3 := Aside0.mk hA
    clear hA hw hr
    go_wp2_with (fail)
    refine (ec.code_hit 4 w3 (HE.out.below A3.out.below)).mono ?_
    rintro e w4 ⟨rfl, hb⟩
    have A4 := Aside0.mk (A3.out.next hb)
    clear hb
    go_wp2_with (fail)
    go_ret
    exact ⟨ret_bool (by first | rfl | (simp; done)), A4.out.below⟩
  · by_cases h44 : 44 < level
    · as_aux_lemma =>
      have hr : emptyN [nd0] [0, 0, 0] 1000 level = ([nd0], [0, 0, 0], 0, 7) := by unfold emptyN; rw [if_neg h2, if_pos h44]
      have hw := own_empty A2.out level (emOk0 _) (by simp)
      rw [hr] at hw
      go_wp2_with (fail)
      refine hw.mono ?_
      rintro e w3 ⟨rfl, hA⟩
      dsimp only at hA ⊢
      rw [show errOf 7 = .iface 38 (.int .i64 7) from rfl]
      have A3 := Aside0.mk hA
      clear hA hw hr
      go_wp2_with (fail)
      refine (ec.code_hit 7 w3 (HE.out.below A3.out.below)).mono ?_
      rintro e w4 ⟨rfl, hb⟩
      have A4 := Aside0.mk (A3.out.next hb)
      clear hb
      have hL := own_len A4.out
      have hl2 : ([nd0].length : Int) = 1 := rfl
      rw [hl2] at hL
      clear hl2
      go_wp2_with (first | (go_at_call 9; refine hL.mono ?_; rintro e w1 ⟨rfl, rfl⟩))
      go_ret
      exact ⟨ret_bool (by first | rfl | (simp; done)), A4.out.below⟩
    · obtain ⟨n, hlv⟩ : ∃ n : Nat, (n : Int) + 2 = level := ⟨(level - 2).toNat, by omega⟩
      have hn : n < 43 := by omega
      have F := Aside0.mk (facts_of n hn)
      have hw := own_empty A2.out level (emOk0 _) (by simp)
      rw [← hlv, show emptyN [nd0] [0, 0, 0] 1000 ((n : Int) + 2) = ((eR n).1, (eR n).2.1, (n : Int), 0) from F.out.r, hlv] at hw
      have HW := Aside0.mk hw
      have HLV := Aside0.mk hlv
      clear hw hlv
      go_wp2_with (fail)
      refine HW.out.mono ?_
      rintro e w3 ⟨rfl, hA⟩
      dsimp only at hA ⊢
      rw [show errOf 0 = .nilIface from rfl]
      have A3 := Aside0.mk hA
      clear hA HW
      have hw := own_empty A3.out level F.out.ok (by have := F.out.len; omega)
      rw [← HLV.out, F.out.again, HLV.out] at hw
      have HW := Aside0.mk hw
      clear hw
      go_wp2_with (fail)
      refine HW.out.mono ?_
      rintro e w4 ⟨rfl, hA⟩
      dsimp only at hA ⊢
      rw [show errOf 0 = .nilIface from rfl]
      have A4 := Aside0.mk hA
      clear hA A2 A3 HW
      have hlen := F.out.len
      have hL := own_len A4.out
      have hV := own_level A4.out n (by omega) (by omega)
      have hC := own_count A4.out n (by omega) (by omega)
      rw [hlen] at hL
      rw [F.out.lv, HLV.out] at hV
      rw [F.out.cnt] at hC
      rw [show ((n + 1 : Nat) : Int) = level - 1 by have := HLV.out; omega] at hL
      clear hlen
      by_cases hn0 : n = 0
      · as_aux_lemma =>
        have h42 : n ≠ 42 := by omega
        have h22 : level ≤ 2 := by have := HLV.out; omega
        have HN0 := Aside0.mk hn0
        clear hn0
        have HU := Aside0.mk (F.out.more h42)
        have hw := own_join A4.out n n n n (by omega) (by omega) (by omega) (by omega) (by have := F.out.len; omega)
        rw [HU.out.1] at hw
        have HW := Aside0.mk hw
        clear hw
        go_wp2_with (first | (go_at_call 9; refine hL.mono ?_; rintro e w1 ⟨rfl, rfl⟩) | (go_at_call 8; refine hV.mono ?_; rintro e w1 ⟨rfl, rfl⟩) | (go_at_call 13; refine hC.mono ?_; rintro e w1 ⟨rfl, rfl⟩))
        clear hL hV hC
        refine HW.out.mono ?_
        rintro e w7 ⟨rfl, hA⟩
        dsimp only at hA ⊢
        have A7 := Aside0.mk hA
        clear hA HW A4
        rw [show errOf 0 = .nilIface from rfl]
        have hw := own_empty A7.out (level + 1) ⟨F.out.ok.l0, F.out.ok.l1, F.out.ok.bd⟩ (by have := HU.out.2.1; omega)
        rw [show level + 1 = (n : Int) + 3 by have := HLV.out; have := HN0.out; omega, HU.out.2.2] at hw
        have HW := Aside0.mk hw
        clear hw
        have h44' : (level == 44) = false := by rw [beq_eq_false_iff_ne]; have := HLV.out; have := HN0.out; omega
        go_wp2_with (fail)
        rw [show level + 1 = (n : Int) + 3 by have := HLV.out; have := HN0.out; omega]
        refine HW.out.mono ?_
        rintro e w8 ⟨rfl, hA⟩
        dsimp only at hA ⊢
        rw [show errOf 0 = .nilIface from rfl]
        have A8 := Aside0.mk hA
        clear hA HW A7
        go_wp2_with (fail)
        go_ret
        exact ⟨ret_bool (by first | rfl | (simp; done)), A8.out.below⟩
      · by_cases h42 : n = 42
        · as_aux_lemma =>
          have h23 : 2 < level := by have := HLV.out; omega
          have H42 := Aside0.mk h42
          clear h42
          have HB := Aside0.mk (F.out.below hn0)
          have hw := own_empty A4.out (level - 1) F.out.ok (by have := F.out.len; omega)
          rw [show level - 1 = (n : Int) + 1 by have := HLV.out; omega, HB.out.1] at hw
          have HW := Aside0.mk hw
          clear hw
          go_wp2_with (first | (go_at_call 9; refine hL.mono ?_; rintro e w1 ⟨rfl, rfl⟩) | (go_at_call 8; refine hV.mono ?_; rintro e w1 ⟨rfl, rfl⟩) | (go_at_call 13; refine hC.mono ?_; rintro e w1 ⟨rfl, rfl⟩))
          clear hL hV hC
          rw [show level - 1 = (n : Int) + 1 by have := HLV.out; omega]
          refine HW.out.mono ?_
          rintro e w5 ⟨rfl, hA⟩
          dsimp only at hA ⊢
          rw [show errOf 0 = .nilIface from rfl]
          have A5 := Aside0.mk hA
          clear hA HW A4
          go_wp2_with (fail)
          refine (own_kids A5.out n (by omega) (by omega)).mono ?_
          rw [HB.out.2]
          rintro e w6 ⟨rfl, hA⟩
          unfold kidsVal
          dsimp only
          have A4 := Aside0.mk hA
          clear hA A5
          obtain ⟨m, hm⟩ : ∃ m : Int, (n : Int) - 1 = m := ⟨_, rfl⟩
          rw [hm]
          clear hm
          have HU := Aside0.mk (F.out.top H42.out)
          have hw := own_join A4.out n n n n (by omega) (by omega) (by omega) (by omega) (by have := F.out.len; omega)
          rw [HU.out.1] at hw
          have HW := Aside0.mk hw
          clear hw
          go_wp2_with (fail)
          refine HW.out.mono ?_
          rintro e w7 ⟨rfl, hA⟩
          dsimp only at hA ⊢
          have A7 := Aside0.mk hA
          clear hA HW A4
          rw [show errOf 7 = .iface 38 (.int .i64 7) from rfl]
          have hw := own_empty A7.out (level + 1) F.out.ok (by have := F.out.len; omega)
          rw [show level + 1 = 45 by have := HLV.out; have := H42.out; omega, HU.out.2] at hw
          have HW := Aside0.mk hw
          clear hw
          have h44' : (level == 44) = true := by rw [beq_iff_eq]; have := HLV.out; have := H42.out; omega
          rw [show (45 : Int) = level + 1 by have := HLV.out; have := H42.out; omega] at HW
          go_wp2_with (fail)
          refine HW.out.mono ?_
          rintro e w8 ⟨rfl, hA⟩
          dsimp only at hA ⊢
          rw [show errOf 7 = .iface 38 (.int .i64 7) from rfl]
          have A8 := Aside0.mk hA
          clear hA HW A7
          go_wp2_with (fail)
          refine (ec.code_hit 7 w8 (HE.out.below A8.out.below)).mono ?_
          rintro e w9 ⟨rfl, hb⟩
          have A9 := Aside0.mk (A8.out.next hb)
          clear hb A8
          go_wp2_with (fail)
          refine (ec.code_hit 7 w9 (HE.out.below A9.out.below)).mono ?_
          rintro e w10 ⟨rfl, hb⟩
          have A10 := Aside0.mk (A9.out.next hb)
          clear hb A9
          go_wp2_with (fail)
          go_ret
          exact ⟨ret_bool (by first | rfl | (simp; done)), A10.out.below⟩
        · as_aux_lemma =>
          have h23 : 2 < level := by have := HLV.out; omega
          have HB := Aside0.mk (F.out.below hn0)
          have hw := own_empty A4.out (level - 1) F.out.ok (by have := F.out.len; omega)
          rw [show level - 1 = (n : Int) + 1 by have := HLV.out; omega, HB.out.1] at hw
          have HW := Aside0.mk hw
          clear hw
          go_wp2_with (first | (go_at_call 9; refine hL.mono ?_; rintro e w1 ⟨rfl, rfl⟩) | (go_at_call 8; refine hV.mono ?_; rintro e w1 ⟨rfl, rfl⟩) | (go_at_call 13; refine hC.mono ?_; rintro e w1 ⟨rfl, rfl⟩))
          clear hL hV hC
          rw [show level - 1 = (n : Int) + 1 by have := HLV.out; omega]
          refine HW.out.mono ?_
          rintro e w5 ⟨rfl, hA⟩
          dsimp only at hA ⊢
          rw [show errOf 0 = .nilIface from rfl]
          have A5 := Aside0.mk hA
          clear hA HW A4
          go_wp2_with (fail)
          refine (own_kids A5.out n (by omega) (by omega)).mono ?_
          rw [HB.out.2]
          rintro e w6 ⟨rfl, hA⟩
          unfold kidsVal
          dsimp only
          have A4 := Aside0.mk hA
          clear hA A5
          obtain ⟨m, hm⟩ : ∃ m : Int, (n : Int) - 1 = m := ⟨_, rfl⟩
          rw [hm]
          clear hm
          have HU := Aside0.mk (F.out.more h42)
          have hw := own_join A4.out n n n n (by omega) (by omega) (by omega) (by omega) (by have := F.out.len; omega)
          rw [HU.out.1] at hw
          have HW := Aside0.mk hw
          clear hw
          go_wp2_with (fail)
          refine HW.out.mono ?_
          rintro e w7 ⟨rfl, hA⟩
          dsimp only at hA ⊢
          have A7 := Aside0.mk hA
          clear hA HW A4
          rw [show errOf 0 = .nilIface from rfl]
          have hw := own_empty A7.out (level + 1) ⟨F.out.ok.l0, F.out.ok.l1, F.out.ok.bd⟩ (by have := HU.out.2.1; omega)
          rw [show level + 1 = (n : Int) + 3 by have := HLV.out; omega, HU.out.2.2] at hw
          have HW := Aside0.mk hw
          clear hw
          have h44' : (level == 44) = false := by rw [beq_eq_false_iff_ne]; have := HLV.out; omega
          go_wp2_with (fail)
          rw [show level + 1 = (n : Int) + 3 by have := HLV.out; omega]
          refine HW.out.mono ?_
          rintro e w8 ⟨rfl, hA⟩
          dsimp only at hA ⊢
          rw [show errOf 0 = .nilIface from rfl]
          have A8 := Aside0.mk hA
          clear hA HW A7
          go_wp2_with (fail)
          go_ret
          exact ⟨ret_bool (by first | rfl | (simp; done)), A8.out.below⟩
end Go.Proofs.YtbeijhjafmalgaaDoor.ar
