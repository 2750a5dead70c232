/- A slice of the document's cells among a law's arguments. -/
import Derived.Test.YtpmipllohiiocaaMVs
import Derived.Test.YtpmipllohiiocaaMGt
import Derived.Test.YtpmipllohiiocaaRow
import Derived.Test.YtpmipllohiiocaaWWords
import Derived.ChangeArms
import Derived.Test.YtpmipllohiiocaaQTreeBuildsx0
namespace Go.Proofs.Ytpmipllohiiocaa.tr
open Go.RowKit Go.Proofs.Ytpmipllohiiocaa.PTreeBuilds Go.Proofs.Ytpmipllohiiocaa.lb Go.Proofs.Ytpmipllohiiocaa.ar Go.Proofs.Ytpmipllohiiocaa.bs

theorem leaf_mem (f : Nat) (la lb : Int) (c : Cl) : c ∈ cells f la lb ↔ InQ 2 (c.f0.f0 - la) (c.f0.f1 - lb) c.f1 ∧ (Q.leaf f).has (c.f0.f0 - la) (c.f0.f1 - lb) c.f1 = true := by
  rw [mem_cells]
  show _ ↔ _ ∧ decide _ = true
  rw [decide_eq_true_iff]
  have e4 : (2 : Int) ^ 2 = 4 := rfl
  constructor
  · rintro ⟨b, a, h, b0, b1, a0, a1, h0, h1, hb, rfl⟩
    have e1 : (cellAt la lb b a h).f0.f0 = la + a := rfl
    have e2 : (cellAt la lb b a h).f0.f1 = lb + b := rfl
    have e3 : (cellAt la lb b a h).f1 = h := rfl
    rw [e1, e2, e3]
    refine ⟨⟨by omega, by rw [e4]; omega, by omega, by rw [e4]; omega, by omega, by omega⟩, ?_⟩
    rw [show (8 * (lb + b - lb) + 2 * (la + a - la) + h).toNat = 2 * (4 * b + a).toNat + h.toNat by omega]
    exact hb
  · rintro ⟨⟨x0, x1, y0, y1, h0, h1⟩, hb⟩
    rw [e4] at x1 y1
    refine ⟨c.f0.f1 - lb, c.f0.f0 - la, c.f1, y0, y1, x0, x1, h0, h1, ?_, ?_⟩
    · rw [show 2 * (4 * (c.f0.f1 - lb) + (c.f0.f0 - la)).toNat + c.f1.toNat = (8 * (c.f0.f1 - lb) + 2 * (c.f0.f0 - la) + c.f1).toNat by omega]
      exact hb
    · obtain ⟨⟨A, B⟩, h⟩ := c
      show _ = (⟨⟨la + (A - la), lb + (B - lb)⟩, h⟩ : Cl)
      rw [show la + (A - la) = A by omega, show lb + (B - lb) = B by omega]
theorem ex_same {a b : Q} (h : b.lv = a.lv) : b.ex = a.ex := by
  have h1 := a.lv_ex
  have h2 := b.lv_ex
  omega
theorem qcells_mem : ∀ (q : Q) (_ : q.ok) (la lb : Int) (c : Cl), c ∈ qcells q la lb ↔ InQ q.ex (c.f0.f0 - la) (c.f0.f1 - lb) c.f1 ∧ q.has (c.f0.f0 - la) (c.f0.f1 - lb) c.f1 = true
  | .leaf f, _, la, lb, c => leaf_mem f la lb c
  | .node a b c d, hok, la, lb, x => by
    obtain ⟨ha, hb, hc, hd, eb, ec, ed⟩ := hok
    have e := two_succ a.ex
    have hp := two_pos a.ex
    have hxe : (Q.node a b c d).ex = a.ex + 1 := rfl
    have hhas : ∀ u v t, (Q.node a b c d).has u v t = if u < 2 ^ a.ex then (if v < 2 ^ a.ex then a.has u v t else c.has u (v - 2 ^ a.ex) t) else (if v < 2 ^ a.ex then b.has (u - 2 ^ a.ex) v t else d.has (u - 2 ^ a.ex) (v - 2 ^ a.ex) t) := fun _ _ _ => rfl
    show x ∈ qcells a la lb ++ qcells b (la + 2 ^ a.ex) lb ++ qcells c la (lb + 2 ^ a.ex) ++ qcells d (la + 2 ^ a.ex) (lb + 2 ^ a.ex) ↔ _
    rw [List.mem_append, List.mem_append, List.mem_append, qcells_mem a ha, qcells_mem b hb, qcells_mem c hc, qcells_mem d hd, hxe, hhas, ex_same eb, ex_same ec, ex_same ed]
    obtain ⟨⟨A, B⟩, h⟩ := x
    dsimp only
    generalize (2 : Int) ^ (a.ex + 1) = H2 at *
    obtain ⟨H, hH⟩ : ∃ H, (2 : Int) ^ a.ex = H := ⟨_, rfl⟩
    have iq : ∀ u v, InQ a.ex u v h ↔ 0 ≤ u ∧ u < H ∧ 0 ≤ v ∧ v < H ∧ 0 ≤ h ∧ h < 2 := fun u v => ⟨fun ⟨a, b, c, d, e, f⟩ => ⟨a, by rw [← hH]; exact b, c, by rw [← hH]; exact d, e, f⟩, fun ⟨a, b, c, d, e, f⟩ => ⟨a, by rw [hH]; exact b, c, by rw [hH]; exact d, e, f⟩⟩
    have iq2 : ∀ u v, InQ (a.ex + 1) u v h ↔ 0 ≤ u ∧ u < 2 * H ∧ 0 ≤ v ∧ v < 2 * H ∧ 0 ≤ h ∧ h < 2 := fun u v => ⟨fun ⟨a, b, c, d, e, f⟩ => ⟨a, by rw [two_succ, hH] at b; exact b, c, by rw [two_succ, hH] at d; exact d, e, f⟩, fun ⟨a, b, c, d, e, f⟩ => ⟨a, by rw [two_succ, hH]; exact b, c, by rw [two_succ, hH]; exact d, e, f⟩⟩
    rw [iq, iq, iq, iq, iq2]
    rw [hH] at hp ⊢
    rw [show A - (la + H) = A - la - H by omega, show B - (lb + H) = B - lb - H by omega]
    generalize A - la = u
    generalize B - lb = v
    clear iq iq2 hhas hH e
    by_cases h1 : u < H
    · by_cases h2 : v < H
      · rw [if_pos h1, if_pos h2]
        constructor
        · rintro (((⟨h3, h4⟩ | ⟨h3, _⟩) | ⟨h3, _⟩) | ⟨h3, _⟩)
          · exact ⟨by omega, h4⟩
          · omega
          · omega
          · omega
        · rintro ⟨h3, h4⟩
          exact .inl (.inl (.inl ⟨by omega, h4⟩))
      · rw [if_pos h1, if_neg h2]
        constructor
        · rintro (((⟨h3, h4⟩ | ⟨h3, _⟩) | ⟨h3, h4⟩) | ⟨h3, _⟩)
          · omega
          · omega
          · exact ⟨by omega, h4⟩
          · omega
        · rintro ⟨h3, h4⟩
          exact .inl (.inr ⟨by omega, h4⟩)
    · by_cases h2 : v < H
      · rw [if_neg h1, if_pos h2]
        constructor
        · rintro (((⟨h3, h4⟩ | ⟨h3, h4⟩) | ⟨h3, _⟩) | ⟨h3, _⟩)
          · omega
          · exact ⟨by omega, h4⟩
          · omega
          · omega
        · rintro ⟨h3, h4⟩
          exact .inl (.inl (.inr ⟨by omega, h4⟩))
      · rw [if_neg h1, if_neg h2]
        constructor
        · rintro (((⟨h3, h4⟩ | ⟨h3, h4⟩) | ⟨h3, _⟩) | ⟨h3, h4⟩)
          · omega
          · omega
          · omega
          · exact ⟨by omega, h4⟩
        · rintro ⟨h3, h4⟩
          exact .inr ⟨by omega, h4⟩
/-- where a leaf has a cell -/
def pos (la lb : Int) (c : Cl) : Int := 8 * (c.f0.f1 - lb) + 2 * (c.f0.f0 - la) + c.f1
theorem c2_up (f la lb b a : Int) (d : Nat) : ∀ h, (c2 f la lb b a d h).Pairwise (fun x y => pos la lb x < pos la lb y) := by
  induction d with
  | zero => intro h; exact List.Pairwise.nil
  | succ d ih =>
    intro h
    show ((if _ then _ else _) ++ _ : List Cl).Pairwise _
    split
    · refine List.pairwise_cons.2 ⟨fun y hy => ?_, ih (h + 1)⟩
      obtain ⟨h', h1, h2, _, rfl⟩ := (mem_c2 f la lb b a d (h + 1) y).1 hy
      show 8 * (lb + b - lb) + 2 * (la + a - la) + h < 8 * (lb + b - lb) + 2 * (la + a - la) + h'
      omega
    · exact ih (h + 1)
theorem mem_tail (f la lb : Int) (d : Nat) : ∀ (i : Nat) (c : Cl), c ∈ tail f la lb d i → 2 * (i : Int) ≤ pos la lb c := by
  induction d with
  | zero => intro i c h; simp [tail] at h
  | succ d ih =>
    intro i c h
    rcases List.mem_append.1 h with h | h
    · obtain ⟨h', h1, h2, _, rfl⟩ := (mem_c2 _ _ _ _ _ _ _ _).1 h
      show 2 * (i : Int) ≤ 8 * (lb + ((i / 4 : Nat) : Int) - lb) + 2 * (la + ((i % 4 : Nat) : Int) - la) + h'
      omega
    · have := ih (i + 1) c h
      omega
theorem tail_up (f la lb : Int) (d : Nat) : ∀ i : Nat, (tail f la lb d i).Pairwise (fun x y => pos la lb x < pos la lb y) := by
  induction d with
  | zero => intro i; exact List.Pairwise.nil
  | succ d ih =>
    intro i
    refine List.pairwise_append.2 ⟨c2_up _ _ _ _ _ _ _, ih (i + 1), fun x hx y hy => ?_⟩
    have h1 := mem_tail _ _ _ _ _ _ hy
    obtain ⟨h', h2, h3, _, rfl⟩ := (mem_c2 _ _ _ _ _ _ _ _).1 hx
    show 8 * (lb + ((i / 4 : Nat) : Int) - lb) + 2 * (la + ((i % 4 : Nat) : Int) - la) + h' < _
    omega
theorem cells_nodup (f la lb : Int) : (cells f la lb).Nodup := by
  rw [← tail_cells]
  exact (tail_up f la lb 16 0).imp (fun {x y} h e => by rw [e] at h; omega)
theorem qcells_nodup : ∀ (q : Q) (_ : q.ok) (la lb : Int), (qcells q la lb).Nodup
  | .leaf f, _, la, lb => cells_nodup f la lb
  | .node a b c d, hok, la, lb => by
    obtain ⟨ha, hb, hc, hd, eb, ec, ed⟩ := hok
    have hp := two_pos a.ex
    show (qcells a la lb ++ qcells b (la + 2 ^ a.ex) lb ++ qcells c la (lb + 2 ^ a.ex) ++ qcells d (la + 2 ^ a.ex) (lb + 2 ^ a.ex)).Nodup
    have ma := fun x hx => ((qcells_mem a ha la lb x).1 hx).1
    have mb := fun x hx => ((qcells_mem b hb (la + 2 ^ a.ex) lb x).1 hx).1
    have mc := fun x hx => ((qcells_mem c hc la (lb + 2 ^ a.ex) x).1 hx).1
    have md := fun x hx => ((qcells_mem d hd (la + 2 ^ a.ex) (lb + 2 ^ a.ex) x).1 hx).1
    rw [ex_same eb] at mb
    rw [ex_same ec] at mc
    rw [ex_same ed] at md
    refine List.nodup_append.2 ⟨List.nodup_append.2 ⟨List.nodup_append.2 ⟨qcells_nodup a ha _ _, qcells_nodup b hb _ _, ?_⟩, qcells_nodup c hc _ _, ?_⟩, qcells_nodup d hd _ _, ?_⟩
    · intro x hx y hy e
      subst e
      have h1 := ma x hx
      have h2 := mb x hy
      have := h1.x1; have := h2.x0
      omega
    · intro x hx y hy e
      subst e
      have h2 := mc x hy
      rcases List.mem_append.1 hx with hx | hx
      · have h1 := ma x hx
        have := h1.y1; have := h2.y0
        omega
      · have h1 := mb x hx
        have := h1.y1; have := h2.y0
        omega
    · intro x hx y hy e
      subst e
      have h2 := md x hy
      rcases List.mem_append.1 hx with hx | hx
      · rcases List.mem_append.1 hx with hx | hx
        · have h1 := ma x hx
          have := h1.y1; have := h2.y0
          omega
        · have h1 := mb x hx
          have := h1.y1; have := h2.y0
          omega
      · have h1 := mc x hx
        have := h1.x1; have := h2.x0
        omega
end Go.Proofs.Ytpmipllohiiocaa.tr
namespace Go.Proofs.Ytpmipllohiiocaa.tr
open Go.RowKit Go.Proofs.Ytpmipllohiiocaa.PTreeBuilds Go.Proofs.YtpmipllohiiocaaW.PrintWords Go.Proofs.YtpmipllohiiocaaW.PrintLast Go.Proofs.YtpmipllohiiocaaW.PrintMore Go.Proofs.Ytpmipllohiiocaa.bs Go.ChangeShapes Go.Proofs.Ytpmipllohiiocaa.lb Go.Proofs.Ytpmipllohiiocaa.ar Go.Maps

/-- what lives below a root -/
def rootCells (q : Q) : List Cl := qcells q (-pw (hx q.lv)) (-pw (hx q.lv))
section
variable {w0 w : World} {F : Nat → Prop} {p : Nat} {nodes : List Nd} {empty : List Int} {most : Int}
set_option maxRecDepth 100000 in
set_option maxHeartbeats 1000000 in
theorem cells_arg (hA : Ar w F p nodes empty most) (k most' : Int) (hk : 0 ≤ k ∧ k < 4294967296) (hlt : lvAt nodes k < 3) :
    Calls Try.prog 18 #[.pointer (some ⟨p, 0, none⟩), .int .u32 k, .int .i64 most'] w fun e w' => e = .returned (.tuple #[.slice none 0 0, .iface 68 (.int .i64 4)]) ∧ w' = w := by
  have hlev := level_walk F p nodes empty most _ hA k hk.1 hk.2
  generalize lvAt nodes k = lv at *
  have HLEV := Aside0.mk hlev
  clear hlev hA
  go_enter Try.func18, Try.ntmps18
  go_wp2_with (go_at_call 22; refine HLEV.out.mono ?_; rintro e w1 ⟨rfl, rfl⟩)
  refine bodyPost_ret (v := .tuple #[.slice none 0 0, .iface 68 (.int .i64 4)]) (by simp [results, Try.results18, go_sem]) rfl ?_
  exact ⟨rfl, rfl⟩
set_option maxRecDepth 100000 in
set_option maxHeartbeats 1000000 in
theorem cells_big (hA : Ar w F p nodes empty most) (q : Q) (i : Nat) (hR : Rep nodes q i) (h3 : 3 ≤ q.lv) (most' : Int) (hm : -9223372036854775808 ≤ most' ∧ most' ≤ 9223372036854775807) (hbig : most' < 0 ∨ most' < q.cnt) :
    Calls Try.prog 18 #[.pointer (some ⟨p, 0, none⟩), .int .u32 i, .int .i64 most'] w fun e w' => e = .returned (.tuple #[.slice none 0 0, .iface 68 (.int .i64 3)]) ∧ w' = w := by
  have hi32 : (i : Int) < 4294967296 := by have := hR.lt; have := hA.size; omega
  have hlev := level_walk F p nodes empty most _ hA i (by omega) hi32
  have hcnt := ncount_walk F p nodes empty most _ hA i (by omega) hi32
  rw [hR.lv] at hlev
  rw [hR.cnt] at hcnt
  have hn3 : ¬ q.lv < 3 := by omega
  generalize q.lv = lv at *
  generalize q.cnt = cn at *
  have HLEV := Aside0.mk hlev
  have HCNT := Aside0.mk hcnt
  clear hlev hcnt hA hR
  by_cases h0 : most' < 0
  · clear hbig hm h3 hi32
    go_enter Try.func18, Try.ntmps18
    go_upto_region 5 with (first | (go_at_call 22; refine HLEV.out.mono ?_; rintro e w1 ⟨rfl, rfl⟩))
    go_wp2_with (fail)
    refine bodyPost_ret (v := .tuple #[.slice none 0 0, .iface 68 (.int .i64 3)]) (by simp [results, Try.results18, go_sem]) rfl ?_
    exact ⟨rfl, rfl⟩
  · have hbig2 : most' < cn := by omega
    have hcv : IntKind.u64.wrap most' = most' := by simp [IntKind.wrap, IntKind.bits, IntKind.signed]; omega
    clear hbig hm h3 hi32
    go_enter Try.func18, Try.ntmps18
    go_upto_region 5 with (first | (go_at_call 22; refine HLEV.out.mono ?_; rintro e w1 ⟨rfl, rfl⟩) | (go_at_call 24; refine HCNT.out.mono ?_; rintro e w1 ⟨rfl, rfl⟩))
    go_wp2_with (fail)
    refine bodyPost_ret (v := .tuple #[.slice none 0 0, .iface 68 (.int .i64 3)]) (by simp [results, Try.results18, go_sem]) rfl ?_
    exact ⟨rfl, rfl⟩
set_option maxRecDepth 100000 in
set_option maxHeartbeats 4000000 in
theorem cells_ok (hA : Ar w F p nodes empty most) (hsz : nodes.length ≤ 536870912) (hF : ∀ k, F k → k < w.heap.size) (q : Q) (i : Nat) (hR : Rep nodes q i) (h3 : 3 ≤ q.lv) (h44 : q.lv ≤ 44) (hlen : (rootCells q).length ≤ 1000000000) (most' : Int) (hm : -9223372036854775808 ≤ most' ∧ most' ≤ 9223372036854775807) (hfit : 0 ≤ most' ∧ q.cnt ≤ most') :
    Calls Try.prog 18 #[.pointer (some ⟨p, 0, none⟩), .int .u32 i, .int .i64 most'] w fun e w' => ∃ v, e = .returned (.tuple #[v, .nilIface]) ∧ Kd.R k39 39 w' w.heap.size (fun k => w.heap.size ≤ k) v (sortCl (rootCells q)) ∧ Below w.heap.size w w' := by
  have hi32 : (i : Int) < 4294967296 := by have := hR.lt; have := hA.size; omega
  have hlev := level_walk F p nodes empty most _ hA i (by omega) hi32
  have hcnt := ncount_walk F p nodes empty most _ hA i (by omega) hi32
  rw [hR.lv] at hlev
  rw [hR.cnt] at hcnt
  have hn3 : ¬ q.lv < 3 := by omega
  have hex := q.lv_ex
  have hhx : hx q.lv = q.ex - 1 := by rw [hex]; exact hx_nat q.ex (by omega) (by omega)
  have hpl := pw_le (show q.ex - 1 ≤ 43 by omega)
  have e43 : pw 43 = 8796093022208 := by decide
  have hp2 : (2 : Int) ^ q.ex = 2 * pw (q.ex - 1) := by
    obtain ⟨n, hn⟩ : ∃ n, q.ex = n + 1 := ⟨q.ex - 1, by omega⟩
    rw [hn]; exact pw_succ n
  have hor := fun w => torigin_walk q.lv w
  have hnd : (rootCells q).Nodup := qcells_nodup q hR.ok _ _
  have hvis := fun (w' : World) (hb : Below w.heap.size w w') (O : Nat) (hO1 : w.heap.size ≤ O) (hO : w'.heap[O]? = some (.cells #[.slice none 0 0] 24 (0, 0))) => visit_walk (F := F) (p := p) (nodes := nodes) (empty := empty) (most := most) (O := O) (fun k hk => by have := hF k hk; omega) hsz q i (-pw (hx q.lv)) (-pw (hx q.lv)) (.slice none 0 0) [] w' (hA.below hb) hR (by omega) (by rw [hhx]; omega) (by rw [hhx]; omega) hO (Kd.R_nil _ _ _ _ _) (by show 0 + (rootCells q).length ≤ 1000000000; omega)
  have hof := fun (l : List Cl) (A : Option Addr) (c : Nat) (w' : World) (h : Kd.C k39 w' A l.length l) (e : l = rootCells q) => setof_walk l A c w' h (by rw [e]; exact hlen) (by rw [e]; exact hnd)
  have HOR := Aside0.mk hor
  have HLEV := Aside0.mk hlev
  have HCNT := Aside0.mk hcnt
  have HVIS := Aside0.mk hvis
  have HOF := Aside0.mk hof
  have HFIT := Aside0.mk hfit
  have HRC : Aside0 (rootCells q = qcells q (-pw (hx q.lv)) (-pw (hx q.lv))) := ⟨rfl⟩
  have hn0 : ¬ most' < 0 := by omega
  have hcv : IntKind.u64.wrap most' = most' := by simp [IntKind.wrap, IntKind.bits, IntKind.signed]; omega
  have hnb : ¬ most' < q.cnt := by omega
  generalize rootCells q = rc at *
  clear hor hlev hcnt hvis hof hfit hA hR hex hhx hpl e43 hp2 hnd hlen hF hsz h3 h44 hi32
  generalize q.cnt = cn at *
  unfold seeV at HVIS
  obtain ⟨lv, hlv⟩ : ∃ lv, q.lv = lv := ⟨_, rfl⟩
  rw [hlv] at hn3
  simp only [hlv] at HLEV HOR HVIS HRC
  generalize -pw (hx lv) = L at *
  clear hlv
  go_enter Try.func18, Try.ntmps18
  go_upto_region 7 with (first | (go_at_call 22; refine HLEV.out.mono ?_; rintro e w1 ⟨rfl, rfl⟩) | (go_at_call 24; refine HCNT.out.mono ?_; rintro e w1 ⟨rfl, rfl⟩))
  have hb := below_alloc (Below.refl w.heap.size w) (.cells #[.slice none 0 0] 24)
  have HV := Aside0.mk (fun (w' : World) (hb2 : Below (w.alloc (.cells #[.slice none 0 0] 24)).heap.size (w.alloc (.cells #[.slice none 0 0] 24)) w') => HVIS.out w' (chain hb hb2 hb.size) w.heap.size (Nat.le_refl _) (blk_below (blk_new w (.cells #[.slice none 0 0] 24)) hb2))
  have HB := Aside0.mk hb
  clear hb HVIS
  generalize w.alloc (.cells #[.slice none 0 0] 24) = w1 at *
  obtain ⟨O, hO⟩ : ∃ O, w.heap.size = O := ⟨_, rfl⟩
  have HOO := Aside0.mk hO
  simp only [hO] at HV HB ⊢
  clear hO
  go_wp2_with (first
    | (go_at_call 40; refine (HOR.out _).mono ?_; rintro e w2 ⟨rfl, hb2⟩; have HB2 := Aside0.mk hb2; clear hb2)
    | (go_at_call 39; with_reducible refine Calls.mono (HV.out _ HB2.out) ?_; rintro e w3 ⟨rfl, hl3⟩; obtain ⟨v3, hv3, hr3, ho3⟩ := hl3.ex; rw [List.nil_append] at hr3; obtain ⟨A3, c3, hs3⟩ := Kd.R_slice hr3; rw [hs3] at hv3; have c0 := blk_cell hv3 0; simp only [List.getElem?_toArray, List.getElem?_cons_zero] at c0; have HC3 := Aside0.mk (by have h := hr3; rw [hs3] at h; exact (Kd.R_reads' h).2.2); have HL3 := Aside0.mk hl3; clear hl3 hv3 hr3 ho3 hs3)
    | (go_at_call 31; with_reducible refine Calls.mono (HOF.out _ _ _ _ HC3.out HRC.out.symm) ?_; rintro e w4 ⟨v4, rfl, hr4, hb4⟩; have HR4 := Aside0.mk hr4; have HB4 := Aside0.mk hb4; clear hr4 hb4))
  refine bodyPost_ret (v := .tuple #[v4, .nilIface]) (by simp [results, Try.results18, go_sem]) rfl ?_
  have h12 := chain HB.out HB2.out (by have := HB.out.size; have := HOO.out; omega)
  have h3 : Below O w w3 := ⟨HL3.out.keeps.os.trans h12.os, HL3.out.keeps.tape.trans h12.tape, HL3.out.keeps.output.trans h12.output, Nat.le_trans h12.size HL3.out.keeps.size, fun k hk => (HL3.out.keeps.block k (by have := h12.size; have := HOO.out; omega) (fun e => e.elim (fun e => by omega) (fun e => by simp [Value.ownBlock] at e))).trans (h12.block k hk)⟩
  have hle : O ≤ w3.heap.size := by have := h3.size; have := HOO.out; omega
  refine ⟨v4, rfl, ?_, ?_⟩
  · rw [HOO.out]
    rw [HRC.out]; exact Kd.R_mono (Kd.R_lower HR4.out hle) (fun k hk => Nat.le_trans hle hk)
  · rw [HOO.out]
    exact chain h3 HB4.out hle
end
end Go.Proofs.Ytpmipllohiiocaa.tr
namespace Go.Proofs.Ytpmipllohiiocaa.tr
open Go.RowKit Go.Proofs.Ytpmipllohiiocaa.PTreeBuilds Go.Proofs.YtpmipllohiiocaaW.PrintWords Go.Proofs.Ytpmipllohiiocaa.lb Go.Proofs.Ytpmipllohiiocaa.ar Go.Proofs.Ytpmipllohiiocaa.bs

def aheadB (x y : Rc) : Bool := if x.f1 = y.f1 then (if x.f0 = y.f0 then decide (x.f2 < y.f2) else decide (x.f0 < y.f0)) else decide (x.f1 < y.f1)
theorem aheadB_lt (x y : Rc) : aheadB x y = ltC (ownC x) (ownC y) := by
  obtain ⟨a, b, h⟩ := x
  obtain ⟨c, d, g⟩ := y
  unfold aheadB ltC ownC
  dsimp only
  by_cases h1 : b = d
  · subst h1
    by_cases h2 : a = c
    · subst h2; simp
    · rw [if_pos rfl, if_neg h2]; simp [h2]
  · rw [if_neg h1]; simp [h1]
theorem ownC_inj {x y : Rc} (h : ownC x = ownC y) : x = y := by
  obtain ⟨a, b, h1⟩ := x
  obtain ⟨c, d, g⟩ := y
  simp [ownC] at h
  rw [h.1.1, h.1.2, h.2]
theorem ahead_irr (x : Rc) : aheadB x x = false := by rw [aheadB_lt]; exact ltC_swo.irrefl _
theorem ahead_tr {x y z : Rc} (h1 : aheadB x y = true) (h2 : aheadB y z = true) : aheadB x z = true := by rw [aheadB_lt] at *; exact ltC_swo.trans _ _ _ h1 h2
theorem ahead_tot {x y : Rc} (h1 : aheadB x y = false) (h2 : x ≠ y) : aheadB y x = true := by
  rw [aheadB_lt] at *
  by_cases h : ltC (ownC y) (ownC x) = true
  · exact h
  · exact absurd (ownC_inj (ltC_tot _ _ h1 (by simpa using h))) h2
instance : DecidableEq Rc := fun x y => decidable_of_iff (x.f0 = y.f0 ∧ x.f1 = y.f1 ∧ x.f2 = y.f2) ⟨fun h => by
  obtain ⟨a, b, c⟩ := x
  obtain ⟨d, e, f⟩ := y
  simp at h
  rw [h.1, h.2.1, h.2.2], fun h => by rw [h]; exact ⟨rfl, rfl, rfl⟩⟩
/-- rising, with a cell -/
def insR : List Rc → Rc → List Rc
  | [], c => [c]
  | x :: xs, c => if aheadB x c = true then x :: insR xs c else if x = c then x :: xs else c :: x :: xs
theorem insR_cons (x : Rc) (xs : List Rc) (c : Rc) : insR (x :: xs) c = if aheadB x c = true then x :: insR xs c else if x = c then x :: xs else c :: x :: xs := rfl
def Rising (l : List Rc) : Prop := l.Pairwise (fun x y => aheadB x y = true)
theorem mem_insR (c y : Rc) : ∀ l : List Rc, y ∈ insR l c ↔ y = c ∨ y ∈ l
  | [] => by simp [insR]
  | x :: xs => by
    unfold insR
    split
    · rw [List.mem_cons, mem_insR c y xs, List.mem_cons]
      constructor
      · rintro (h | h | h)
        · exact .inr (.inl h)
        · exact .inl h
        · exact .inr (.inr h)
      · rintro (h | h | h)
        · exact .inr (.inl h)
        · exact .inl h
        · exact .inr (.inr h)
    · split
      · rename_i h; subst h
        constructor
        · exact .inr
        · rintro (h | h)
          · rw [h]; exact List.mem_cons_self
          · exact h
      · rw [List.mem_cons]
theorem insR_rising (c : Rc) : ∀ l : List Rc, Rising l → Rising (insR l c)
  | [], _ => List.pairwise_singleton _ _
  | x :: xs, h => by
    have h1 := (List.pairwise_cons.1 h).1
    have h2 := (List.pairwise_cons.1 h).2
    unfold insR
    split
    · rename_i hx
      refine List.pairwise_cons.2 ⟨fun y hy => ?_, insR_rising c xs h2⟩
      rcases (mem_insR c y xs).1 hy with rfl | hy
      · exact hx
      · exact h1 y hy
    · rename_i hx
      split
      · exact h
      · rename_i hne
        have hcx := ahead_tot (by simpa using hx) hne
        refine List.pairwise_cons.2 ⟨fun y hy => ?_, h⟩
        rcases List.mem_cons.1 hy with rfl | hy
        · exact hcx
        · exact ahead_tr hcx (h1 y hy)
theorem insR_len (c : Rc) : ∀ l : List Rc, (insR l c).length ≤ l.length + 1
  | [] => by simp [insR]
  | x :: xs => by
    have := insR_len c xs
    unfold insR
    split
    · simp; omega
    · split <;> simp
theorem ahead_val (x y : Rc) : honeycombref03_Ahead.f x.f0 x.f1 x.f2 y.f0 y.f1 y.f2 = some (aheadB x y) := by
  unfold honeycombref03_Ahead.f aheadB
  split
  · split <;> rfl
  · rfl
theorem rdR (l : List Rc) (i : Nat) (x : Rc) (h : l[i]? = some x) : rd_T42 l (i : Int) = x := by
  unfold rd_T42
  rw [Int.toNat_natCast, List.getD_eq_getElem?_getD, h]; rfl
theorem neB (x c : Rc) : (!(x.f0 == c.f0) || (!(x.f1 == c.f1) || (!(x.f2 == c.f2)))) = true ↔ x ≠ c := by
  obtain ⟨a, b, h⟩ := x
  obtain ⟨d, e, g⟩ := c
  simp
  constructor
  · intro h1 h2 h3 h4
    rcases h1 with h1 | h1 | h1
    · exact h1 h2
    · exact h1 h3
    · exact h1 h4
  · intro h1
    by_cases h2 : a = d
    · by_cases h3 : b = e
      · exact .inr (.inr (h1 h2 h3))
      · exact .inr (.inl h3)
    · exact .inl h2
theorem put_done (c : Rc) (l : List Rc) (hl : l.length ≤ 1000000) : ∀ (d i k : Nat) (acc : List Rc), i + d = l.length → acc.length ≤ 1000001 + i → (∀ x ∈ l.drop i, x ≠ c) → 2 * d < k →
    honeycombref04_Put.l0 k acc true l (l.length : Int) (i : Int) c.f0 c.f1 c.f2 = some (acc ++ l.drop i)
  | 0, i, k, acc, h, ha, hx, hk => by
    obtain ⟨k, rfl⟩ : ∃ m, k = m + 1 := ⟨k - 1, by omega⟩
    unfold honeycombref04_Put.l0
    rw [if_neg (by omega), if_pos rfl, List.drop_eq_nil_of_le (by omega), List.append_nil]
  | d + 1, i, k, acc, h, ha, hx, hk => by
    obtain ⟨k, rfl⟩ : ∃ m, k = m + 1 + 1 := ⟨k - 2, by omega⟩
    have hlt : i < l.length := by omega
    have hg := List.getElem?_eq_getElem hlt
    have hdr : l.drop i = l[i] :: l.drop (i + 1) := List.drop_eq_getElem_cons hlt
    have hxi : l[i] ≠ c := hx _ (by rw [hdr]; exact List.mem_cons_self)
    unfold honeycombref04_Put.l0
    rw [if_pos (by omega), if_pos (by omega), if_pos (by omega), if_pos rfl, rdR l i _ hg]
    unfold honeycombref04_Put.j1
    rw [if_neg (by decide), if_pos ((neB _ _).2 hxi), if_pos (by omega), show wrap64 ((i : Int) + 1) = ((i + 1 : Nat) : Int) by rw [w64 _ (by omega)]; omega]
    rw [put_done c l hl d (i + 1) k _ (by omega) (by simp; omega) (fun x hx' => hx x (by rw [hdr]; exact List.mem_cons_of_mem _ hx')) (by omega), hdr, List.append_assoc]
    rfl
theorem put_go (c : Rc) (l : List Rc) (hl : l.length ≤ 1000000) (hr : Rising l) : ∀ (d i k : Nat) (acc : List Rc), i + d = l.length → acc.length ≤ 1000000 + i → 2 * d < k →
    honeycombref04_Put.l0 k acc false l (l.length : Int) (i : Int) c.f0 c.f1 c.f2 = some (acc ++ insR (l.drop i) c)
  | 0, i, k, acc, h, ha, hk => by
    obtain ⟨k, rfl⟩ : ∃ m, k = m + 1 := ⟨k - 1, by omega⟩
    unfold honeycombref04_Put.l0
    rw [if_neg (by omega), if_neg (by decide), if_pos (by omega), List.drop_eq_nil_of_le (by omega)]
    rfl
  | d + 1, i, k, acc, h, ha, hk => by
    obtain ⟨k, rfl⟩ : ∃ m, k = m + 1 + 1 := ⟨k - 2, by omega⟩
    have hlt : i < l.length := by omega
    have hg := List.getElem?_eq_getElem hlt
    have hdr : l.drop i = l[i] :: l.drop (i + 1) := List.drop_eq_getElem_cons hlt
    have hw : wrap64 ((i : Int) + 1) = ((i + 1 : Nat) : Int) := by rw [w64 _ (by omega)]; omega
    have hpw : (l.drop i).Pairwise (fun x y => aheadB x y = true) := hr.sublist (List.drop_sublist i l)
    rw [hdr] at hpw
    have hp1 := (List.pairwise_cons.1 hpw).1
    unfold honeycombref04_Put.l0
    rw [if_pos (by omega), if_pos (by omega), if_pos (by omega), if_neg (by decide), rdR l i _ hg, ahead_val, Option.bind_some]
    unfold honeycombref04_Put.j1
    by_cases hah : aheadB l[i] c = true
    · have hne : l[i] ≠ c := fun e => by rw [e, ahead_irr] at hah; cases hah
      rw [hah, if_neg (by decide), if_pos ((neB _ _).2 hne), if_pos (by omega), hw]
      rw [put_go c l hl hr d (i + 1) k _ (by omega) (by simp; omega) (by omega), hdr]
      rw [insR_cons, if_pos hah, List.append_assoc]
      rfl
    · have hah' : aheadB l[i] c = false := by simpa using hah
      rw [hah', if_pos (by rfl), if_pos (by omega), Option.bind_some]
      by_cases hne : l[i] = c
      · rw [if_neg (fun h => (neB _ _).1 h hne), hw]
        rw [put_done c l hl d (i + 1) k _ (by omega) (by simp; omega) (fun x hx' e => by
          have := hp1 x hx'
          rw [e, hne, ahead_irr] at this
          cases this) (by omega), hdr]
        rw [insR_cons, if_neg hah, if_pos hne, hne, List.append_assoc]
        rfl
      · rw [if_pos ((neB _ _).2 hne), if_pos (by simp; omega), hw]
        have hcx := ahead_tot hah' hne
        rw [put_done c l hl d (i + 1) k _ (by omega) (by simp; omega) (fun x hx' e => by
          have := ahead_tr hcx (hp1 x hx')
          rw [e, ahead_irr] at this
          cases this) (by omega), hdr]
        rw [insR_cons, if_neg hah, if_neg hne, List.append_assoc, List.append_assoc]
        rfl
theorem put_val (c : Rc) (l : List Rc) (hl : l.length ≤ 1000000) (hr : Rising l) (k : Nat) (hk : 2 * l.length < k) : honeycombref04_Put.f k l c.f0 c.f1 c.f2 = some (insR l c) := by
  have h := put_go c l hl hr l.length 0 k [] (by omega) (by simp) hk
  simpa [honeycombref04_Put.f] using h
/-- a list's cells, rising, each once -/
def ofR (l : List Rc) : List Rc := l.foldl insR []
theorem foldl_insR (l : List Rc) : ∀ acc : List Rc, Rising acc → Rising (l.foldl insR acc) ∧ (l.foldl insR acc).length ≤ acc.length + l.length ∧ ∀ y, y ∈ l.foldl insR acc ↔ y ∈ acc ∨ y ∈ l := by
  induction l with
  | nil => intro acc h; exact ⟨h, Nat.le_refl _, fun y => by simp⟩
  | cons x xs ih =>
    intro acc h
    obtain ⟨h1, h2, h3⟩ := ih (insR acc x) (insR_rising x acc h)
    have := insR_len x acc
    refine ⟨h1, by simp only [List.foldl_cons, List.length_cons]; omega, fun y => ?_⟩
    rw [List.foldl_cons, h3, mem_insR, List.mem_cons]
    constructor
    · rintro ((h | h) | h)
      · exact .inr (.inl h)
      · exact .inl h
      · exact .inr (.inr h)
    · rintro (h | h | h)
      · exact .inl (.inr h)
      · exact .inl (.inl h)
      · exact .inr h
theorem ofR_rising (l : List Rc) : Rising (ofR l) := (foldl_insR l [] List.Pairwise.nil).1
theorem ofR_len (l : List Rc) : (ofR l).length ≤ l.length := by have := (foldl_insR l [] List.Pairwise.nil).2.1; unfold ofR; simpa using this
theorem mem_ofR (l : List Rc) (y : Rc) : y ∈ ofR l ↔ y ∈ l := by have := (foldl_insR l [] List.Pairwise.nil).2.2 y; unfold ofR; simpa using this
theorem of_go (l : List Rc) (hl : l.length ≤ 1000) : ∀ (d i k : Nat), i + d = l.length → d + 2001 < k → honeycombref04_Of.l0 k (ofR (l.take i)) l (l.length : Int) (i : Int) = some (ofR l)
  | 0, i, k, h, hk => by
    obtain ⟨k, rfl⟩ : ∃ m, k = m + 1 := ⟨k - 1, by omega⟩
    unfold honeycombref04_Of.l0
    rw [if_neg (by omega), List.take_of_length_le (by omega)]
  | d + 1, i, k, h, hk => by
    obtain ⟨k, rfl⟩ : ∃ m, k = m + 1 := ⟨k - 1, by omega⟩
    have hlt : i < l.length := by omega
    have hg := List.getElem?_eq_getElem hlt
    have hol := ofR_len (l.take i)
    rw [List.length_take] at hol
    unfold honeycombref04_Of.l0
    rw [if_pos (by omega), if_pos (by omega), if_pos (by omega), rdR l i _ hg, put_val _ _ (by omega) (ofR_rising _) k (by omega), Option.bind_some, show wrap64 ((i : Int) + 1) = ((i + 1 : Nat) : Int) by rw [w64 _ (by omega)]; omega]
    have he : insR (ofR (l.take i)) l[i] = ofR (l.take (i + 1)) := by
      unfold ofR
      rw [List.take_succ_eq_append_getElem hlt, List.foldl_append]
      rfl
    rw [he]
    exact of_go l hl d (i + 1) k (by omega) (by omega)
theorem of_val (l : List Rc) (hl : l.length ≤ 1000) (k : Nat) (hk : 3002 < k) : honeycombref04_Of.f k l = some (ofR l) := by
  have h := of_go l hl l.length 0 k (by omega) (by omega)
  simpa [honeycombref04_Of.f, ofR] using h
def wideC (c : Rc) : Rc := ⟨Int.tmod c.f0 2199023255552, Int.tmod c.f1 2199023255552, Go.bits .and .i64 c.f2 1⟩
def wideR (raw : List Rc) : List Rc := ofR ((raw.take 30).map wideC)
theorem wide_go (raw : List Rc) : ∀ (d i k : Nat), i + d = min raw.length 30 → d + 3003 < k → honeycomblaw13_Wide.l0 k raw ((raw.take i).map wideC) (i : Int) = some (wideR raw)
  | 0, i, k, h, hk => by
    obtain ⟨k, rfl⟩ : ∃ m, k = m + 1 := ⟨k - 1, by omega⟩
    have hv : honeycombref04_Of.f k ((raw.take i).map wideC) = some (wideR raw) := by
      rw [of_val _ (by rw [List.length_map, List.length_take]; omega) k (by omega)]
      unfold wideR
      rw [show raw.take i = raw.take 30 from by
        by_cases h1 : raw.length ≤ 30
        · rw [List.take_of_length_le (by omega), List.take_of_length_le h1]
        · rw [show i = 30 by omega]]
    unfold honeycomblaw13_Wide.l0
    by_cases h1 : (i : Int) < (raw.length : Int)
    · rw [if_pos h1, if_neg (by omega), hv]; rfl
    · rw [if_neg h1, hv]; rfl
  | d + 1, i, k, h, hk => by
    obtain ⟨k, rfl⟩ : ∃ m, k = m + 1 := ⟨k - 1, by omega⟩
    have hlt : i < raw.length := by omega
    have hg := List.getElem?_eq_getElem hlt
    unfold honeycomblaw13_Wide.l0
    rw [if_pos (by omega), if_pos (by omega), if_pos (by omega), if_pos (by rw [List.length_map, List.length_take]; omega), rdR raw i _ hg, show wrap64 ((i : Int) + 1) = ((i + 1 : Nat) : Int) by rw [w64 _ (by omega)]; omega]
    have he : (raw.take i).map wideC ++ [(⟨Int.tmod raw[i].f0 2199023255552, Int.tmod raw[i].f1 2199023255552, Go.bits .and .i64 raw[i].f2 1⟩ : Rc)] = (raw.take (i + 1)).map wideC := by
      rw [List.take_succ_eq_append_getElem hlt, List.map_append]
      rfl
    rw [he]
    exact wide_go raw d (i + 1) k (by omega) (by omega)
theorem wide_val (raw : List Rc) (k : Nat) (hk : 3040 < k) : honeycomblaw13_Wide.f k raw = some (wideR raw) := by
  have h := wide_go raw (min raw.length 30) 0 k (by omega) (by omega)
  simpa [honeycomblaw13_Wide.f] using h
theorem tmod_bd (x : Int) : -2199023255552 < Int.tmod x 2199023255552 ∧ Int.tmod x 2199023255552 < 2199023255552 := by
  have h1 := Int.tmod_lt_of_pos x (show (0 : Int) < 2199023255552 by decide)
  by_cases h : 0 ≤ x
  · have := Int.tmod_nonneg 2199023255552 h; omega
  · have h2 := Int.neg_tmod x 2199023255552
    have h3 := Int.tmod_lt_of_pos (-x) (show (0 : Int) < 2199023255552 by decide)
    omega
theorem wideR_len (raw : List Rc) : (wideR raw).length ≤ 30 := by
  have := ofR_len ((raw.take 30).map wideC)
  rw [List.length_map, List.length_take] at this
  unfold wideR
  omega
theorem wideR_bd (raw : List Rc) (c : Rc) (h : c ∈ wideR raw) : (-2199023255552 < c.f0 ∧ c.f0 < 2199023255552) ∧ (-2199023255552 < c.f1 ∧ c.f1 < 2199023255552) ∧ 0 ≤ c.f2 ∧ c.f2 < 2 := by
  obtain ⟨x, _, rfl⟩ := List.mem_map.1 ((mem_ofR _ _).1 h)
  refine ⟨tmod_bd _, tmod_bd _, ?_⟩
  show 0 ≤ Go.bits .and .i64 x.f2 1 ∧ Go.bits .and .i64 x.f2 1 < 2
  rw [bs.and1]
  omega
/-- rising cells of the program's -/
def UpC (l : List Cl) : Prop := l.Pairwise (fun x y => ltC x y = true)
theorem UpC.of {l : List Rc} (h : Rising l) : UpC (l.map ownC) := by
  unfold UpC
  rw [List.pairwise_map]
  exact h.imp (fun h => by rw [← aheadB_lt]; exact h)
theorem up_one : ∀ (l m : List Cl), UpC l → UpC m → (∀ c, c ∈ l ↔ c ∈ m) → l = m
  | [], [], _, _, _ => rfl
  | [], y :: ys, _, _, h => absurd ((h y).2 List.mem_cons_self) (by simp)
  | x :: xs, [], _, _, h => absurd ((h x).1 List.mem_cons_self) (by simp)
  | x :: xs, y :: ys, hl, hm, h => by
    obtain ⟨h1, h2⟩ := List.pairwise_cons.1 hl
    obtain ⟨h3, h4⟩ := List.pairwise_cons.1 hm
    have hxy : x = y := by
      rcases List.mem_cons.1 ((h x).1 List.mem_cons_self) with e | e
      · exact e
      · rcases List.mem_cons.1 ((h y).2 List.mem_cons_self) with e2 | e2
        · exact e2.symm
        · have h5 := ltC_swo.trans _ _ _ (h3 x e) (h1 y e2)
          rw [ltC_swo.irrefl] at h5
          cases h5
    subst hxy
    rw [up_one xs ys h2 h4 (fun c => ⟨fun hc => by
      rcases List.mem_cons.1 ((h c).1 (List.mem_cons_of_mem _ hc)) with e | e
      · have h5 := h1 c hc
        rw [e, ltC_swo.irrefl] at h5
        cases h5
      · exact e, fun hc => by
      rcases List.mem_cons.1 ((h c).2 (List.mem_cons_of_mem _ hc)) with e | e
      · have h5 := h3 c hc
        rw [e, ltC_swo.irrefl] at h5
        cases h5
      · exact e⟩)]
theorem UpC.nodup {l : List Cl} (h : UpC l) : l.Nodup := h.imp (fun {x y} h e => by rw [e, ltC_swo.irrefl] at h; cases h)
/-- what lives below a root, as Get tells it -/
theorem rootCells_mem (q : Q) (hok : q.ok) (h3 : 3 ≤ q.lv) (h44 : q.lv ≤ 44) (c : Cl) : c ∈ rootCells q ↔ getQ q c.f0.f0 c.f0.f1 c.f1 = true := by
  unfold rootCells
  rw [qcells_mem q hok]
  have hex := q.lv_ex
  have hhx : hx q.lv = q.ex - 1 := by rw [hex]; exact hx_nat q.ex (by omega) (by omega)
  have hp2 : (2 : Int) ^ q.ex = 2 * pw (hx q.lv) := by
    rw [hhx]
    obtain ⟨n, hn⟩ : ∃ n, q.ex = n + 1 := ⟨q.ex - 1, by omega⟩
    rw [hn]; exact pw_succ n
  obtain ⟨⟨A, B⟩, h⟩ := c
  unfold getQ
  dsimp only
  rw [show A - -pw (hx q.lv) = A + pw (hx q.lv) by omega, show B - -pw (hx q.lv) = B + pw (hx q.lv) by omega]
  have hiff : InQ q.ex (A + pw (hx q.lv)) (B + pw (hx q.lv)) h ↔ (3 ≤ q.lv ∧ Ins (pw (hx q.lv)) A B ∧ 0 ≤ h ∧ h ≤ 1) := by
    constructor
    · rintro ⟨a, b, c, d, e, f⟩
      rw [hp2] at b d
      unfold Ins
      omega
    · rintro ⟨_, ⟨a, b, c, d⟩, e, f⟩
      exact ⟨by omega, by rw [hp2]; omega, by omega, by rw [hp2]; omega, by omega, by omega⟩
  rw [hiff]
  by_cases hc : 3 ≤ q.lv ∧ Ins (pw (hx q.lv)) A B ∧ 0 ≤ h ∧ h ≤ 1
  · rw [if_pos hc]; simp [hc]
  · rw [if_neg hc]; simp [hc]
/-- the cells of a set's root are the set -/
theorem root_cells (cs : List Cl) (hcs : ∀ c ∈ cs, ClOk c) (hin : rootIn cs) (hup : UpC cs) : sortCl (rootCells (rootQ cs)) = cs := by
  have hb := rlv_bd cs
  have hok : (rootQ cs).ok := sqQ_ok _ _ _ _
  have hmem : ∀ c, c ∈ rootCells (rootQ cs) ↔ c ∈ cs := fun c => by
    rw [rootCells_mem _ hok (by rw [rootQ_lv]; omega) (by rw [rootQ_lv]; omega), getQ_root cs hcs hin, decide_eq_true_iff]
  exact up_one _ _ (sortCl_strict (qcells_nodup _ hok _ _)) hup (fun c => ((sortCl_perm _).mem_iff).trans (hmem c))
theorem root_count (cs : List Cl) (hcs : ∀ c ∈ cs, ClOk c) (hin : rootIn cs) (hup : UpC cs) (hl : cs.length ≤ 1000000) : (rootQ cs).cnt = cs.length ∧ (rootCells (rootQ cs)).length = cs.length := by
  have h1 := root_cells cs hcs hin hup
  have h2 : (rootCells (rootQ cs)).length = cs.length := by rw [← sortCl_len, h1]
  have h3 := qcells_cnt (rootQ cs) (-pw (hx (rootQ cs).lv)) (-pw (hx (rootQ cs).lv))
  refine ⟨?_, h2⟩
  rw [h3]
  unfold rootCells at h2
  rw [h2]
  unfold cap62
  omega
end Go.Proofs.Ytpmipllohiiocaa.tr
namespace Go.Proofs.Ytpmipllohiiocaa.tr
open Go.RowKit Go.Proofs.Ytpmipllohiiocaa.PTreeBuilds Go.Proofs.YtpmipllohiiocaaW.PrintWords Go.Proofs.YtpmipllohiiocaaW.PrintLast Go.Proofs.YtpmipllohiiocaaW.PrintMore Go.Proofs.Ytpmipllohiiocaa.bs Go.ChangeShapes Go.Proofs.Ytpmipllohiiocaa.lb Go.Proofs.Ytpmipllohiiocaa.ar Go.Maps

theorem rdC (l : List Cl) (i : Nat) (x : Cl) (h : l[i]? = some x) : rd_T39 l (i : Int) = x := by
  unfold rd_T39
  rw [Int.toNat_natCast, List.getD_eq_getElem?_getD, h]; rfl
theorem neC (x : Cl) (c : Rc) : (!(x.f0.f0 == c.f0) || (!(x.f0.f1 == c.f1) || (!(x.f1 == c.f2)))) = true ↔ x ≠ ownC c := by
  obtain ⟨⟨a, b⟩, h⟩ := x
  obtain ⟨d, e, g⟩ := c
  simp [ownC]
  constructor
  · intro h1 h2 h3 h4
    rcases h1 with h1 | h1 | h1
    · exact h1 h2
    · exact h1 h3
    · exact h1 h4
  · intro h1
    by_cases h2 : a = d
    · by_cases h3 : b = e
      · exact .inr (.inr (h1 h2 h3))
      · exact .inr (.inl h3)
    · exact .inl h2
theorem are_go (l : List Cl) (m : List Rc) (he : l.length = m.length) (hm : m.length ≤ 1000000) : ∀ (d i k : Nat), i + d = m.length → d < k → honeycomblaw04_Are.l0 k l m (m.length : Int) (i : Int) = some (if l.drop i = (m.drop i).map ownC then 0 else -1)
  | 0, i, k, h, hk => by
    obtain ⟨k, rfl⟩ : ∃ m, k = m + 1 := ⟨k - 1, by omega⟩
    unfold honeycomblaw04_Are.l0
    rw [if_neg (by omega), List.drop_eq_nil_of_le (by omega), List.drop_eq_nil_of_le (by omega)]
    rfl
  | d + 1, i, k, h, hk => by
    obtain ⟨k, rfl⟩ : ∃ m, k = m + 1 := ⟨k - 1, by omega⟩
    have h1 : i < m.length := by omega
    have h2 : i < l.length := by omega
    have g1 := List.getElem?_eq_getElem h1
    have g2 := List.getElem?_eq_getElem h2
    have d1 : m.drop i = m[i] :: m.drop (i + 1) := List.drop_eq_getElem_cons h1
    have d2 : l.drop i = l[i] :: l.drop (i + 1) := List.drop_eq_getElem_cons h2
    unfold honeycomblaw04_Are.l0 honeycomblaw03_Told.f
    rw [if_pos (by omega), if_pos (by omega), if_pos (by omega), Option.bind_some, if_pos (by omega), rdR m i _ g1, rdC l i _ g2]
    dsimp only
    by_cases e : l[i] = ownC m[i]
    · rw [if_neg (fun h => (neC _ _).1 h e), show wrap64 ((i : Int) + 1) = ((i + 1 : Nat) : Int) by rw [w64 _ (by omega)]; omega, are_go l m he hm d (i + 1) k (by omega) (by omega), d1, d2, List.map_cons]
      by_cases e2 : l.drop (i + 1) = (m.drop (i + 1)).map ownC
      · rw [if_pos e2, if_pos (by rw [e, e2])]
      · rw [if_neg e2, if_neg (fun h => e2 (List.cons.inj h).2)]
    · rw [if_pos ((neC _ _).2 e), d1, d2, List.map_cons, if_neg (fun h => e (List.cons.inj h).1)]
theorem are_val (l : List Cl) (m : List Rc) (hm : m.length ≤ 1000000) (k : Nat) (hk : m.length < k) : honeycomblaw04_Are.f k l m = some (if l = m.map ownC then 0 else -1) := by
  unfold honeycomblaw04_Are.f
  by_cases he : (l.length : Int) = (m.length : Int)
  · rw [if_pos he]
    have := are_go l m (by omega) hm m.length 0 k (by omega) hk
    simpa using this
  · rw [if_neg he, if_neg (fun h => he (by rw [h, List.length_map]))]
/-- a document's set of few cells that are near -/
structure NearR (l : List Rc) : Prop where
  up : Rising l
  len : l.length ≤ 40
  bd : ∀ x ∈ l, (-8796093022208 ≤ x.f0 ∧ x.f0 < 8796093022208) ∧ (-8796093022208 ≤ x.f1 ∧ x.f1 < 8796093022208) ∧ 0 ≤ x.f2 ∧ x.f2 < 2
theorem wide_near (raw : List Rc) : NearR (wideR raw) := ⟨ofR_rising _, by have := wideR_len raw; omega, fun x hx => by have := wideR_bd raw x hx; omega⟩
theorem NearR.ok {l : List Rc} (h : NearR l) : (∀ c ∈ l.map ownC, ClOk c) ∧ rootIn (l.map ownC) := near_ok h.bd
theorem NearR.cells {l : List Rc} (h : NearR l) : sortCl (rootCells (rootQ (l.map ownC))) = l.map ownC := root_cells _ h.ok.1 h.ok.2 (UpC.of h.up)
theorem NearR.count {l : List Rc} (h : NearR l) : (rootQ (l.map ownC)).cnt = l.length ∧ (rootCells (rootQ (l.map ownC))).length = l.length := by
  have := root_count _ h.ok.1 h.ok.2 (UpC.of h.up) (by rw [List.length_map]; have := h.len; omega)
  rw [List.length_map] at this
  exact this
theorem NearR.same {l m : List Rc} (hl : NearR l) (hm : NearR m) (h : rootQ (l.map ownC) = rootQ (m.map ownC)) : l.map ownC = m.map ownC := by rw [← hl.cells, h, hm.cells]
theorem own_near {l : List Rc} (h : NearR l) (A : Option Addr) (c : Nat) (w : World) (hC : Kd.C k42 w A l.length l) (hc : l.length ≤ c) :
    Calls Try.prog 38 #[.slice A l.length c] w fun e w' => ∃ A' c', e = .returned (.slice A' (l.map ownC).length c') ∧ (l.map ownC).length ≤ c' ∧ Kd.C k39 w' A' (l.map ownC).length (l.map ownC) ∧ Below w.heap.size w w' := by
  have := own4_walk l A c w hC hc
  rw [List.take_of_length_le h.len] at this
  exact this
/-- an arena that has room -/
structure Roomy (w0 w : World) (F : Nat → Prop) (p : Nat) (nodes : List Nd) (empty : List Int) (N : Nat) : Prop where
  tr : Tr w0 w F p nodes empty 1048576
  len : nodes.length ≤ N
section
variable {w0 w w1 w2 : World} {F : Nat → Prop} {p N : Nat} {nodes : List Nd} {empty : List Int}
theorem Roomy.below (h : Roomy w0 w F p nodes empty N) (hb : Below w.heap.size w w1) : Roomy w0 w1 F p nodes empty N := ⟨h.tr.below hb, h.len⟩
theorem make_roomy {cs : List Cl} {e : Ending} (hl : cs.length ≤ 40) (h : MakePost cs w e w1) : ∃ p F nodes empty, ∃ i : Nat, e = .returned (.tuple #[.pointer (some ⟨p, 0, none⟩), .int .u32 i, .bool true]) ∧ Roomy w w1 F p nodes empty 2000 ∧ Rep nodes (rootQ cs) i ∧ Below w.heap.size w w1 := by
  obtain ⟨p, F, nodes, empty, i, he, ht, hr, hn, hb⟩ := h
  have := ht.emq.hi
  exact ⟨p, F, nodes, empty, i, he, ⟨ht, by omega⟩, hr, hb⟩
/-- one more set built in an arena that has room -/
theorem build_roomy (h : Roomy w0 w F p nodes empty N) (hN : N ≤ 200000) {l : List Rc} (hn : NearR l) (A : Option Addr) (c : Nat) (hC : Kd.C k39 w A (l.map ownC).length (l.map ownC)) (hb0 : Below w0.heap.size w0 w) :
    Calls Try.prog 37 #[.pointer (some ⟨p, 0, none⟩), .slice A (l.map ownC).length c] w fun e w' => ∃ F' nodes' empty', ∃ i : Nat, e = .returned (.tuple #[.int .u32 i, .nilIface]) ∧ Roomy w0 w' F' p nodes' empty' (N + 2000) ∧ (∀ q j, Rep nodes q j → Rep nodes' q j) ∧ Rep nodes' (rootQ (l.map ownC)) i ∧ ((∃ i, Rep nodes (rootQ (l.map ownC)) i) → nodes' = nodes) ∧ Below w0.heap.size w0 w' := by
  have hlen : (l.map ownC).length ≤ 40 := by rw [List.length_map]; exact hn.len
  have hnn := h.len
  refine (tbuild_walk h.tr A c (l.map ownC) hC hn.ok.1 (by omega) hn.ok.2 (by omega)).mono fun e w' hg => ?_
  obtain ⟨F', nodes', empty', i, he, hs, hl, hr, hh⟩ := hg.sure (by omega)
  have := hs.tr.emq.hi
  exact ⟨F', nodes', empty', i, he, ⟨hs.tr, by omega⟩, fun q j hq => hs.rep hq, hr, hh, hs.belowAll h.tr hb0⟩
/-- the cells of a set's root -/
theorem cells_roomy (h : Roomy w0 w F p nodes empty N) (hN : N ≤ 200000) {l : List Rc} (hn : NearR l) {i : Nat} (hR : Rep nodes (rootQ (l.map ownC)) i) (most : Int) (hm : 100 ≤ most ∧ most ≤ 9223372036854775807) :
    Calls Try.prog 18 #[.pointer (some ⟨p, 0, none⟩), .int .u32 i, .int .i64 most] w fun e w' => ∃ A' c', e = .returned (.tuple #[.slice A' (l.map ownC).length c', .nilIface]) ∧ (l.map ownC).length ≤ c' ∧ Kd.C k39 w' A' (l.map ownC).length (l.map ownC) ∧ Below w.heap.size w w' := by
  have hnn := h.len
  have hll := hn.len
  have hlv := rlv_bd (l.map ownC)
  refine (cells_ok h.tr.hold.ar (by omega) h.tr.hold.hi (rootQ (l.map ownC)) i hR (by rw [rootQ_lv]; omega) (by rw [rootQ_lv]; omega) (by rw [hn.count.2]; omega) most (by omega) (by rw [hn.count.1]; omega)).mono fun e w' ⟨v, he, hr, hb⟩ => ?_
  rw [hn.cells] at hr
  obtain ⟨A, c, hv, hc, hC⟩ := Kd.R_reads hr
  exact ⟨A, c, by rw [he, hv], hc, hC, hb⟩
end
end Go.Proofs.Ytpmipllohiiocaa.tr
namespace Go.Proofs.Ytpmipllohiiocaa.bs
open Go.ChangeShapes Go.WideShapes Go.ChangeAt Go.RowKit Go.Joins Go.Proofs.YtpmipllohiiocaaW.PrintWords

theorem list_of_all {α : Type} (P : Nat → α → Prop) (n : Nat) (h : ∀ i, i < n → ∃ x, P i x) : ∃ xs : List α, xs.length = n ∧ ∀ (i : Nat) (x : α), xs[i]? = some x → P i x := by
  induction n with
  | zero => exact ⟨[], rfl, fun i x hx => by simp at hx⟩
  | succ n ih =>
    obtain ⟨xs, hl, hx⟩ := ih (fun i hi => h i (by omega))
    obtain ⟨y, hy⟩ := h n (by omega)
    refine ⟨xs ++ [y], by simp [hl], fun i x hi => ?_⟩
    rw [List.getElem?_append] at hi
    split at hi
    · exact hx i x hi
    · rename_i hge
      rw [List.getElem?_singleton] at hi
      split at hi
      · rename_i h0
        obtain rfl : i = n := by omega
        obtain rfl := Option.some.inj hi
        exact hy
      · cases hi
section
variable {H : Type} {enc : TypeId × Value → H} {P : Program} {w : World} {base : Nat} {sp : Nat → Bool} {held : Bool}
theorem open_rowsG {α : Type} (d : Kd α) (good : α → Prop) {r : Reach} {b0 : Nat} {t e : TypeId} {v : Value} {dd : DataW H} {p : List MemPlace} (ht : P.underlying t = some (.slice e)) (hc : P.cellsOf e = d.sz)
    (hel : ∀ (n : Nat) (cs : List Value) (y : DataW H × List MemPlace), DataW.trod enc P w base sp held n e cs = some y → ∃ x, good x ∧ d.K w x cs)
    (hv : Value.okWide P w r b0 t v) (h : DataW.Trod enc P w base sp held t v dd p) : ∃ A n c xs, v = .slice A n c ∧ xs.length = n ∧ d.C w A n xs ∧ ∀ x ∈ xs, good x := by
  obtain ⟨a0, l0, c0, rfl⟩ := okWide_slice ht hv
  obtain ⟨fuel, hf⟩ := h
  rcases DataW.trod_slice ht hf with ⟨hcs, _⟩ | ⟨a, len, cap, elems, rest, n, _, hcs, _, hb, hl, hm, hlen, hel', _⟩
  · simp [Value.cells] at hcs
    obtain ⟨rfl, rfl, rfl⟩ := hcs
    exact ⟨none, 0, 0, [], rfl, rfl, ⟨rfl, by decide, fun h => absurd h (by omega)⟩, fun x hx => by simp at hx⟩
  · simp [Value.cells] at hcs
    obtain ⟨rfl, rfl, rfl⟩ := hcs
    have each : ∀ i, i < l0 → ∃ x, good x ∧ ∃ cs, cs.length = d.sz ∧ d.K w x cs ∧ ∀ j u, cs[j]? = some u → w.cell? (a.add (i * d.sz + j)) = some u := by
      intro i hi
      have h1 := hel' i hi
      have h2 : elems[i]? = some (elems[i]'(by omega)) := List.getElem?_eq_getElem (by omega)
      rw [h2, Option.bind_eq_some_iff] at h1
      obtain ⟨cs, hcs, ht1⟩ := h1
      obtain ⟨x, hg, hK⟩ := hel n cs _ ht1
      obtain ⟨_, hcl, hce⟩ := World.cells?_some hcs
      refine ⟨x, hg, cs, by rw [hcl, hc], hK, fun j u hu => ?_⟩
      have hj : j < cs.length := (List.getElem?_eq_some_iff.1 hu).1
      have := hce j (by omega)
      rw [hu, hc] at this
      rw [← this]
      congr 1
      exact (Go.Proofs.YtpmipllohiiocaaW.PrintWords.add_add _ _ _).symm
    obtain ⟨xs, hxl, hx⟩ := list_of_all _ l0 each
    refine ⟨some a, l0, c0, xs, rfl, hxl, ⟨hxl, by have : maxLen = 9223372036854775807 := rfl; omega, fun _ => ⟨a, rfl, fun j q hj => (hx j q hj).2⟩⟩, fun x hm => ?_⟩
    obtain ⟨i, hi⟩ := List.getElem?_of_mem hm
    exact (hx i x hi).1
end
end Go.Proofs.Ytpmipllohiiocaa.bs
namespace Go.Proofs.Ytpmipllohiiocaa.tr
open Go.ChangeShapes Go.WideShapes Go.ChangeAt Go.RowKit Go.Joins Go.Proofs.Ytpmipllohiiocaa.bs Go.Proofs.YtpmipllohiiocaaW.PrintWords Go.Proofs.Ytpmipllohiiocaa.PTreeBuilds

section
variable {H : Type} {enc : TypeId × Value → H} {w : World} {base : Nat} {sp : Nat → Bool} {held : Bool}
def RcOk (x : S42) : Prop := (-9223372036854775808 ≤ x.f0 ∧ x.f0 ≤ 9223372036854775807) ∧ (-9223372036854775808 ≤ x.f1 ∧ x.f1 ≤ 9223372036854775807) ∧ (-9223372036854775808 ≤ x.f2 ∧ x.f2 ≤ 9223372036854775807)
set_option maxRecDepth 100000 in
theorem rcell_open (n : Nat) (cs : List Value) (y : DataW H × List MemPlace) (hf : DataW.trod enc Try.prog w base sp held n 42 cs = some y) : ∃ x, RcOk x ∧ k42.K w x cs := by
  obtain ⟨xs, n, _, hx, hl, hxl, hg⟩ := DataW.trod_struct Try.underlying42 hf
  rw [show Try.prog.cellsOf 42 = 3 by kernel_rfl] at hl
  have hI : Try.prog.cellsOf 3 = 1 := by kernel_rfl
  have hJ : Try.prog.cellsOf 2 = 1 := by kernel_rfl
  have hxl2 : xs.length = 3 := hxl
  match xs, hxl2 with
  | [y0, y1, y2], _ =>
    obtain ⟨n0, e0, _, w0⟩ := DataW.trod_int Try.underlying2 (hg 0 _ rfl)
    obtain ⟨n1, e1, _, w1⟩ := DataW.trod_int Try.underlying2 (hg 1 _ rfl)
    obtain ⟨n2, e2, _, w2⟩ := DataW.trod_int Try.underlying3 (hg 2 _ rfl)
    simp [hI, hJ] at e0 e1 e2
    match cs, hl with
    | [c0, c1, c2], _ =>
      simp at e0 e1 e2
      subst e0 e1 e2
      have b0 := bd_i64 w0
      have b1 := bd_i64 w1
      have b2 := bd_i64 w2
      exact ⟨⟨n0, n1, n2⟩, ⟨by omega, by omega, by omega⟩, k42_mk _ _⟩
end
/-- .. with its room -/
theorem open_rowsC {H : Type} {enc : TypeId × Value → H} {P : Program} {w : World} {base : Nat} {sp : Nat → Bool} {held : Bool} {α : Type} (d : Kd α) (good : α → Prop) {r : Reach} {b0 : Nat} {t e : TypeId} {v : Value} {dd : DataW H} {p : List MemPlace} (ht : P.underlying t = some (.slice e)) (hc : P.cellsOf e = d.sz)
    (hel : ∀ (n : Nat) (cs : List Value) (y : DataW H × List MemPlace), DataW.trod enc P w base sp held n e cs = some y → ∃ x, good x ∧ d.K w x cs)
    (hv : Value.okWide P w r b0 t v) (h : DataW.Trod enc P w base sp held t v dd p) : ∃ A n c xs, v = .slice A n c ∧ xs.length = n ∧ d.C w A n xs ∧ (∀ x ∈ xs, good x) ∧ n ≤ c := by
  obtain ⟨A, n, c, xs, rfl, hl, hC, hg⟩ := open_rowsG d good ht hc hel hv h
  refine ⟨A, n, c, xs, rfl, hl, hC, hg, ?_⟩
  obtain ⟨fuel, hf⟩ := h
  rcases DataW.trod_slice ht hf with ⟨hcs, _⟩ | ⟨a, len, cap, elems, rest, m, _, hcs, _, _, hle, _⟩
  · simp [Value.cells] at hcs
    omega
  · simp [Value.cells] at hcs
    omega
end Go.Proofs.Ytpmipllohiiocaa.tr
