/- The walk over sweep.move, of a node that is no leaf. -/
import Derived.Test.YtbkbkgfpnefilaaMQq
import Derived.Test.YtbkbkgfpnefilaaMAl
import Derived.Maps.OwnSet
import Derived.Maps.RangeWalk
namespace Go.Proofs.Ytbkbkgfpnefilaa.ar
open Go.RowKit Go.Proofs.YtbkbkgfpnefilaaW.PrintWords Go.Proofs.YtbkbkgfpnefilaaW.PrintLast Go.Proofs.YtbkbkgfpnefilaaW.PrintMore Go.Proofs.Ytbkbkgfpnefilaa.bs Go.ChangeShapes Go.Proofs.Ytbkbkgfpnefilaa.lb Go.Maps

theorem lawU : Keyed Try.prog 38 := int_keyed Try.underlying38
theorem zeroInt (w : World) : (zeroValue 3).run Try.prog w = .ok (.int .i64 0) w := by kernel_rfl
def sk (i : Nat) : Lit := .int .u32 i
theorem sk_wf {i : Nat} (h : i < 4294967296) : (Lit.int .u32 i).wf = true := by
  simp [Lit.wf, IntKind.min, IntKind.max, IntKind.signed, IntKind.bits]
  omega
theorem keyU (i : Nat) (h : i < 4294967296) : keyOf Try.prog 38 (.int .u32 i) = some (sk i) := keyOf_int_mk Try.underlying38 (sk_wf h)
theorem sk_key (i : Nat) : WideAt.IsKeyLit (sk i) := trivial
theorem sk_inj {i j : Nat} (h : sk i = sk j) : i = j := by
  unfold sk at h
  injection h with h1 h2
  omega
theorem nodup_le : ∀ (n : Nat) (S : List Nat), S.Nodup → (∀ x ∈ S, x < n) → S.length ≤ n
  | 0, S, _, h => by
    cases S with
    | nil => exact Nat.le_refl _
    | cons x l => exact absurd (h x (by simp)) (by omega)
  | n + 1, S, hn, h => by
    by_cases hm : n ∈ S
    · have h1 := nodup_le n (S.erase n) (hn.erase n) (fun x hx => by
        have h2 := (hn.mem_erase_iff).1 hx
        have := h x h2.2
        omega)
      rw [List.length_erase_of_mem hm] at h1
      omega
    · have h1 := nodup_le n S hn (fun x hx => by
        have := h x hx
        have : x ≠ n := fun e => hm (e ▸ hx)
        omega)
      omega
/-- the kids of the i-th node; none of a leaf -/
def kidsL (nodes : List Nd) (i : Nat) : List Nat := match nodes[i]? with
  | some x => if 2 < x.key.level then [x.key.k0.toNat, x.key.k1.toNat, x.key.k2.toNat, x.key.k3.toNat] else []
  | none => []
/-- those marked behind the call -/
def markR (nodes : List Nd) : Nat → List Nat → Nat → List Nat
  | 0, S, _ => S
  | n + 1, S, i => if i ∈ S then S else (kidsL nodes i).foldl (markR nodes n) (i :: S)
/-- the map has just these, each once -/
structure SeenD (D : DataW Unit) (S : List Nat) : Prop where
  tidy : Tidy D
  nodup : S.Nodup
  size : Maps.size D = S.length
  has : ∀ j, Maps.has D (sk j) = decide (j ∈ S)
  at_ : ∀ j, D.atKey (sk j) (.lit (.int .i64 0)) = .lit (.int .i64 (if j ∈ S then 1 else 0))
theorem seenD_nil : SeenD (.map []) [] := ⟨tidy_empty, List.nodup_nil, rfl, fun j => by rw [show decide (j ∈ ([] : List Nat)) = false by simp]; rfl, fun j => by simp [DataW.atKey]⟩
theorem SeenD.put {D : DataW Unit} {S : List Nat} (h : SeenD D S) {i : Nat} (hi : i ∉ S) : SeenD (D.put (sk i) (.lit (.int .i64 1))) (i :: S) := by
  have hm := h.tidy.isMap
  have hh : Maps.has D (sk i) = false := by rw [h.has]; simpa using hi
  refine ⟨h.tidy.put (sk_key i) _, List.nodup_cons.2 ⟨hi, h.nodup⟩, by rw [size_put h.tidy, hh]; simp [h.size], fun j => ?_, fun j => ?_⟩
  · by_cases e : j = i
    · subst e; rw [has_put_same hm (sk_key j)]; simp
    · rw [has_put_other (fun e2 => e (sk_inj e2)), h.has]; simp [e]
  · by_cases e : j = i
    · subst e; rw [atKey_put_same hm (sk_key j)]; simp
    · rw [atKey_put_other (fun e2 => e (sk_inj e2)), h.at_]; simp [e]
theorem Ar.keeps {w w' : World} {F : Nat → Prop} {p M : Nat} {nodes : List Nd} {empty : List Int} {most : Int} (h : Ar w F p nodes empty most) (hM : ¬ F M) (hk : Keeps (fun k => k = M) w w') : Ar w' F p nodes empty most :=
  h.kept hk.kept (fun _ hf e => hM (e ▸ hf))
theorem index4n (w : World) (a b c d : Nat) : ∀ j : Nat, j < 4 → (Instr.index 129 (.agg #[.int .u32 a, .int .u32 b, .int .u32 c, .int .u32 d]) (.int .i64 j)).run Try.prog w = .ok (.int .u32 (([a, b, c, d].getD j 0 : Nat) : Int)) w
  | 0, _ => by kernel_rfl
  | 1, _ => by kernel_rfl
  | 2, _ => by kernel_rfl
  | 3, _ => by kernel_rfl
  | n + 4, h => by omega
theorem Keeps.drop {F : Nat → Prop} {w w1 w2 : World} (h : Keeps F w w1) (hb : Below w1.heap.size w1 w2) : Keeps F w w2 :=
  ⟨hb.os.trans h.os, hb.tape.trans h.tape, hb.output.trans h.output, Nat.le_trans h.size hb.size, fun k hk hn => (hb.block k (Nat.lt_of_lt_of_le hk h.size)).trans (h.block k hk hn)⟩
theorem ownsU_below {w w1 : World} {M n : Nat} {D : DataW Unit} (h : w.ownsMap Try.prog 38 (plainElem (H := Unit) Try.prog 3) M n D) (hb : Below w.heap.size w w1) : w1.ownsMap Try.prog 38 (plainElem (H := Unit) Try.prog 3) M n D := by
  obtain ⟨es, cl, hk, rest⟩ := h
  exact ⟨es, cl, (hb.block M (blk_lt hk)).trans hk, rest⟩
theorem foldl_take_succ {α β : Type} (f : β → α → β) (l : List α) (b : β) (j : Nat) (x : α) (h : l[j]? = some x) : (l.take (j + 1)).foldl f b = f ((l.take j).foldl f b) x := by
  obtain ⟨hlt, he⟩ := List.getElem?_eq_some_iff.1 h
  rw [List.take_succ_eq_append_getElem hlt, List.foldl_append, he]
  rfl
def MarkPost (N M : Nat) (S' : List Nat) (w : World) (e : Ending) (w' : World) : Prop :=
  e = .returned (.tuple #[]) ∧ (∀ x ∈ S', x < N) ∧ Keeps (fun k => k = M) w w' ∧ ∃ D, SeenD D S' ∧ w'.ownsMap Try.prog 38 (plainElem (H := Unit) Try.prog 3) M S'.length D
set_option maxRecDepth 100000 in
set_option maxHeartbeats 2000000 in
theorem mark_walk (F : Nat → Prop) (p M : Nat) (nodes : List Nd) (empty : List Int) (most : Int) (hMF : ¬ F M) (hN : nodes.length < 536870912) : ∀ (n : Nat) (q : Q) (i : Nat) (S : List Nat) (D : DataW Unit) (w : World), Rep nodes q i → q.lv ≤ (n : Int) + 1 → Ar w F p nodes empty most → SeenD D S → (∀ x ∈ S, x < nodes.length) → w.ownsMap Try.prog 38 (plainElem (H := Unit) Try.prog 3) M S.length D →
    Calls Try.prog 85 #[.pointer (some ⟨p, 0, none⟩), .int .u32 i, .map (some M)] w fun e w' => MarkPost nodes.length M (markR nodes n S i) w e w' := by
  intro n
  induction n with
  | zero => intro q i S D w hR hl; have := q.lv_ge; omega
  | succ n ih =>
    intro q i S0 D w hR hl hA hS hSb hO
    have hil := hR.lt
    have hi32 : i < 4294967296 := by omega
    have hSl : S0.length ≤ nodes.length := nodup_le _ S0 hS.nodup hSb
    have hrun : (Instr.lookup 149 (.map (some M)) (.int .u32 i) false).run Try.prog w = .ok (.int .i64 (if i ∈ S0 then 1 else 0)) w := by
      obtain ⟨c, hrun, hat, _⟩ := hO.lookup_int lawU Try.underlying149 Try.underlying3 (zeroInt _) (keyU i hi32)
      rw [hS.at_] at hat
      injection hat with hat
      injection hat with _ h2
      rw [hrun, ← h2]
    have HA := Aside0.mk hA
    have HO := Aside0.mk hO
    have HS := Aside0.mk hS
    have HR := Aside0.mk hR
    have HSb := Aside0.mk hSb
    have HIH := Aside0.mk ih
    clear hA hO hS hR hSb ih
    by_cases hin : i ∈ S0
    · as_aux_lemma =>
      rw [if_pos hin] at hrun
      have hres : Aside0 (markR nodes (n + 1) S0 i = S0) := ⟨if_pos hin⟩
      clear hin
      go_enter Try.func85, Try.ntmps85
      go_wp2_with (fail)
      go_end0
      rw [hres.out]
      exact ⟨rfl, HSb.out, Keeps.refl _ w, D, HS.out, HO.out⟩
    · rw [if_neg hin] at hrun
      have hS1 := HS.out.put hin
      have HS1 := Aside0.mk hS1
      have HB1 := Aside0.mk (show ∀ x ∈ i :: S0, x < nodes.length from fun x hx => (List.mem_cons.1 hx).elim (fun e => e ▸ hil) (HSb.out x))
      have HRES : Aside0 (markR nodes (n + 1) S0 i = (kidsL nodes i).foldl (markR nodes n) (i :: S0)) := ⟨if_neg hin⟩
      clear hin hS1
      go_enter Try.func85, Try.ntmps85
      go_wp2_with (first | (at_mapUpdate; refine wpList_mapUpdate_own _ rfl _ _ _ 149 rfl 38 3 lawU Try.underlying149 _ M S0.length D rfl HO.out (by unfold maxLen; omega) _ _ _ rfl rfl (keyU i hi32) _ [] (plainElem_int Try.underlying3 (by decide)) ?_; intro w1 ho1 hg1; have HO1 := Aside0.mk ho1; have HG1 := Aside0.mk hg1; clear ho1 hg1; go_frame))
      have KK1 : Aside0 (Keeps (fun k => k = M) w w1) := ⟨⟨HG1.out.os, HG1.out.tape, HG1.out.output, HG1.out.size, fun k hk hn => HG1.out.block k hk (fun e => hn (by injection e))⟩⟩
      have HA1 := Aside0.mk (HA.out.keeps hMF KK1.out)
      clear HG1 HA HO hrun
      have hlev := level_walk F p nodes empty most w1 HA1.out i (by omega) (by omega)
      rw [HR.out.lv] at hlev
      have HLEV := Aside0.mk hlev
      clear hlev
      have hq2 := q.lv_ge
      cases q with
      | leaf f =>
        have hkl : kidsL nodes i = [] := by unfold kidsL; rw [HR.out.1]; rfl
        rw [hkl] at HRES
        have hlv : (Q.leaf f).lv = 2 := rfl
        rw [hlv] at HLEV
        clear hlv hkl hq2 hl
        go_wp2_with (go_at_call 29; refine HLEV.out.mono ?_; rintro e w2 ⟨rfl, rfl⟩)
        go_end0
        rw [HRES.out]
        exact ⟨rfl, HB1.out, KK1.out, _, HS1.out, HO1.out⟩
      | node a b c d =>
        obtain ⟨k0, k1, k2, k3, hx, r0, r1, r2, r3, hb, hc, hd⟩ := HR.out
        have hal : 2 < (Q.node a b c d).lv := by have := a.lv_ge; show 2 < a.lv + 1; omega
        have hlq : (Q.node a b c d).lv = a.lv + 1 := rfl
        have hkl : kidsL nodes i = [k0, k1, k2, k3] := by
          unfold kidsL; rw [hx]
          show (if 2 < a.lv + 1 then _ else _) = _
          rw [if_pos (by omega)]
          simp
        have hkey : keyAt nodes i = ⟨a.lv + 1, 0, k0, k1, k2, k3⟩ := keyAt_some (by rw [Int.toNat_natCast]; exact hx)
        have hkd := kids_walk F p nodes empty most w1 HA1.out i (by omega) (by omega)
        rw [hkey] at hkd
        unfold kidsVal at hkd
        dsimp only at hkd
        have HKD := Aside0.mk hkd
        have HKL : Aside0 (∀ j, j < 4 → ∃ qk, Rep nodes qk ([k0, k1, k2, k3].getD j 0) ∧ qk.lv = a.lv) := ⟨fun j hj => by
          have : j = 0 ∨ j = 1 ∨ j = 2 ∨ j = 3 := by omega
          rcases this with rfl | rfl | rfl | rfl
          · exact ⟨a, r0, rfl⟩
          · exact ⟨b, r1, hb⟩
          · exact ⟨c, r2, hc⟩
          · exact ⟨d, r3, hd⟩⟩
        have hidx := fun (w : World) (j : Nat) (h : j < 4) => index4n w k0 k1 k2 k3 j h
        rw [hkl] at HRES
        generalize (Q.node a b c d).lv = lq at *
        have HLQ : Aside0 (a.lv ≤ (n : Int) + 1) := ⟨by omega⟩
        clear hkey hkl hkd hx r0 r1 r2 r3 hb hc hd hlq hl hq2
        go_wp2_with (first | (go_at_call 29; refine HLEV.out.mono ?_; rintro e w2 ⟨rfl, rfl⟩) | (go_at_call 77; refine HKD.out.mono ?_; rintro e w3 ⟨rfl, hb3⟩; have HB3 := Aside0.mk hb3; clear hb3))
        have HO3 := Aside0.mk (ownsU_below HO1.out HB3.out)
        have HA3 := Aside0.mk (HA1.out.below HB3.out)
        have KK3 := Aside0.mk (KK1.out.drop HB3.out)
        clear HKD HLEV HB3 HO1 HA1 KK1 hal
        obtain ⟨L, hL⟩ : ∃ L, [k0, k1, k2, k3] = L := ⟨_, rfl⟩
        have HLl : Aside0 (L.length = 4) := ⟨by rw [← hL]; rfl⟩
        rw [hL] at HKL HRES
        simp only [hL] at hidx
        clear hL
        go_loopg [23] 4 (fun kq c23 w' => ∃ (j : Nat) (S : List Nat) (D : DataW Unit), j + kq = 4 ∧ c23 = .int .i64 j ∧ Aside0 ((L.take j).foldl (markR nodes n) (i :: S0) = S) ∧ Aside0 (SeenD D S) ∧ Aside0 (∀ x ∈ S, x < nodes.length) ∧ Aside0 (w'.ownsMap Try.prog 38 (plainElem (H := Unit) Try.prog 3) M S.length D) ∧ Aside0 (Ar w' F p nodes empty most) ∧ Aside0 (Keeps (fun k => k = M) w w'))
        case atStart => exact ⟨0, _, _, by omega, rfl, ⟨rfl⟩, HS1, HB1, HO3, HA3, KK3⟩
        case round =>
          clear HS1 HB1 HO3 HA3 KK3
          obtain ⟨j, S, D, hj, rfl, HF, HS, HB, HO, HA, KK⟩ := hrel
          by_cases h4 : j < 4
          · obtain ⟨gm, rfl⟩ : ∃ m, gk = m + 1 := ⟨gk - 1, by omega⟩
            have hi := fun w => hidx w j h4
            obtain ⟨qk, hqr, hql⟩ := HKL.out j h4
            have hlt : j < L.length := by rw [HLl.out]; exact h4
            have hget : L[j]? = some (L.getD j 0) := by rw [List.getD_eq_getElem?_getD, List.getElem?_eq_getElem hlt]; rfl
            have HN2 := Aside0.mk (foldl_take_succ (markR nodes n) L (i :: S0) j _ hget)
            generalize L.getD j 0 = kv at *
            have HREC := Aside0.mk (HIH.out qk kv S D wr hqr (by rw [hql]; exact HLQ.out) HA.out HS.out HB.out HO.out)
            clear hidx hget hlt hqr hql
            go_wp2_with (fail)
            refine HREC.out.mono ?_
            rintro e w5 ⟨rfl, hb5, hk5, D5, hs5, ho5⟩
            have HB5 := Aside0.mk hb5
            have HS5 := Aside0.mk hs5
            have HO5 := Aside0.mk ho5
            have HA5 := Aside0.mk (HA.out.keeps hMF hk5)
            have KK5 := Aside0.mk (KK.out.trans hk5 (fun _ hk => .inl hk))
            have HF5 : Aside0 ((L.take (j + 1)).foldl (markR nodes n) (i :: S0) = markR nodes n S kv) := ⟨by rw [HN2.out, HF.out]⟩
            clear hb5 hk5 hs5 ho5 HREC HB HS HO HA KK HN2 HF hi
            go_wp2_with (fail)
            go_roundg gm
            case measure => omega
            case rel => exact ⟨j + 1, _, D5, by omega, by go_num, HF5, HS5, HB5, HO5, HA5, KK5⟩
          · obtain rfl : j = 4 := by omega
            have hfin : Aside0 (markR nodes (n + 1) S0 i = S) := ⟨by rw [HRES.out, ← HF.out, List.take_of_length_le (by rw [HLl.out]; omega)]⟩
            go_wp2_with (fail)
            go_end0
            rw [hfin.out]
            exact ⟨rfl, HB.out, KK.out, D, HS.out, HO.out⟩
end Go.Proofs.Ytbkbkgfpnefilaa.ar
namespace Go.Proofs.Ytbkbkgfpnefilaa.ar
open Go.RowKit Go.Proofs.YtbkbkgfpnefilaaW.PrintWords Go.Proofs.YtbkbkgfpnefilaaW.PrintLast Go.Proofs.YtbkbkgfpnefilaaW.PrintMore Go.Proofs.Ytbkbkgfpnefilaa.bs Go.ChangeShapes Go.Proofs.Ytbkbkgfpnefilaa.lb Go.Maps

def uRow (rs : List Nat) : List Int := rs.map fun (r : Nat) => (r : Int)
theorem uRow_len (rs : List Nat) : (uRow rs).length = rs.length := by simp [uRow]
/-- a cell of a row of numbers that is read -/
theorem at_U {w : World} {A : Option Addr} {rs : List Nat} (h : Kd.C (Kd.int .u32) w A (uRow rs).length (uRow rs)) (j r : Nat) (hr : rs[j]? = some r) : ∃ ad, A = some ad ∧ w.cell? (ad.add j) = some (.int .u32 r) := by
  have hlt := (List.getElem?_eq_some_iff.1 hr).1
  obtain ⟨ad, c, e, _, hK, hc⟩ := Kd.C_get h 0 (j : Int) (by omega) (by rw [uRow_len]; omega)
  have hx : (uRow rs).getD (j : Int).toNat 0 = (r : Int) := by
    rw [Int.toNat_natCast, List.getD_eq_getElem?_getD]
    simp [uRow, hr]
  rw [hx] at hK
  have e2 : c = [.int .u32 (r : Int)] := hK
  subst e2
  have h0 := hc 0 _ rfl
  rw [Int.toNat_natCast] at h0
  exact ⟨ad, e, by simpa [show (Kd.int IntKind.u32).sz = 1 from rfl] using h0⟩
/-- a number that is a node's -/
def Isn (nodes : List Nd) (r : Nat) : Prop := ∃ q, Rep nodes q r ∧ q.lv ≤ 100
theorem isn_of {w : World} {F : Nat → Prop} {p : Nat} {nodes : List Nd} {empty : List Int} {most : Int} (hA : Ar w F p nodes empty most) (hw : WF nodes) {r : Nat} (hr : r < nodes.length) : Isn nodes r := by
  obtain ⟨q, hq⟩ := hw r hr
  obtain ⟨x, hx, hl, _⟩ := hq.get
  obtain ⟨_, hok, _⟩ := hA
  exact ⟨q, hq, by rw [← hl]; exact Int.le_trans (hok r x hx).key.l1 (by decide)⟩
def ReachPost (nodes : List Nd) (rs : List Nat) (w : World) (e : Ending) (w' : World) : Prop :=
  Below w.heap.size w w' ∧ ((∀ r ∈ rs, r < nodes.length) → e = .returned (.tuple #[.int .i64 (rs.foldl (markR nodes 99) []).length, .nilIface])) ∧ (¬ (∀ r ∈ rs, r < nodes.length) → e = .returned (.tuple #[.int .i64 0, .iface 59 (.int .i64 4)]))
theorem lvAt_neg {nodes : List Nd} {r : Nat} (h : ¬ r < nodes.length) : lvAt nodes r = -1 := lvAt_none (by omega)
set_option maxRecDepth 100000 in
set_option maxHeartbeats 2000000 in
theorem reach_walk (F : Nat → Prop) (p : Nat) (nodes : List Nd) (empty : List Int) (most : Int) (A : Option Addr) (c : Nat) (rs : List Nat) (w : World) (hA : Ar w F p nodes empty most) (hw : WF nodes) (hF : ∀ k, F k → k < w.heap.size) (hN : nodes.length < 536870912) (hr : Kd.C (Kd.int .u32) w A (uRow rs).length (uRow rs)) (h32 : ∀ r ∈ rs, r < 4294967296) :
    Calls Try.prog 44 #[.pointer (some ⟨p, 0, none⟩), .slice A rs.length c] w fun e w' => ReachPost nodes rs w e w' := by
  have hmx := Kd.C_max hr
  rw [uRow_len] at hmx
  have HA := Aside0.mk hA
  have HR := Aside0.mk hr
  have H32 := Aside0.mk h32
  have HMF : Aside0 (¬ F w.heap.size) := ⟨fun h => by have := hF _ h; omega⟩
  have hmm := @run_makeMap Try.prog
  have HO1 : Aside0 ((w.alloc (.map #[] 0)).ownsMap Try.prog 38 (plainElem (H := Unit) Try.prog 3) w.heap.size 0 (.map [])) := ⟨World.ownsMap_made _ _ _ _⟩
  have HB1 := Aside0.mk (below_alloc (Below.refl w.heap.size w) (.map #[] 0))
  clear hA hr h32 hF
  go_enter Try.func44, Try.ntmps44
  go_wp2_with (fail)
  obtain ⟨M, hM⟩ : ∃ M, w.heap.size = M := ⟨_, rfl⟩
  simp only [hM] at HO1 HMF ⊢
  have HMw : Aside0 (w.heap.size ≤ M) := ⟨by omega⟩
  have HA1 := Aside0.mk (HA.out.below (below_alloc (Below.refl _ _) (.map #[] 0)))
  clear hM hmm
  generalize w.alloc (.map #[] 0) = w1 at *
  go_loopg [12] rs.length (fun kq c12 w' => ∃ (j : Nat) (S : List Nat) (D : DataW Unit), j + kq = rs.length ∧ c12 = .int .i64 j ∧ Aside0 ((rs.take j).foldl (markR nodes 99) [] = S) ∧ Aside0 (∀ r ∈ rs.take j, r < nodes.length) ∧ Aside0 (SeenD D S) ∧ Aside0 (∀ x ∈ S, x < nodes.length) ∧ Aside0 (w'.ownsMap Try.prog 38 (plainElem (H := Unit) Try.prog 3) M S.length D) ∧ Aside0 (Ar w' F p nodes empty most) ∧ Aside0 (Below w.heap.size w w'))
  case atStart => exact ⟨0, [], _, by omega, rfl, ⟨rfl⟩, ⟨fun r h => by simp at h⟩, ⟨seenD_nil⟩, ⟨fun x h => by simp at h⟩, HO1, HA1, HB1⟩
  case round =>
    clear HO1 HA1 HB1
    obtain ⟨j, S, D, hj, rfl, HFO, HV, HS, HB, HO, HA1, HB1⟩ := hrel
    by_cases hlt : j < rs.length
    · obtain ⟨gm, rfl⟩ : ∃ m, gk = m + 1 := ⟨gk - 1, by omega⟩
      obtain ⟨r, hr⟩ : ∃ r, rs[j]? = some r := ⟨_, List.getElem?_eq_getElem hlt⟩
      obtain ⟨ad, rfl, hc⟩ := at_U (Kd.C_below HR.out HB1.out) j r hr
      have hm := List.mem_of_getElem? hr
      have h32 := H32.out r hm
      have HN2 := Aside0.mk (foldl_take_succ (markR nodes 99) rs [] j r hr)
      have HV2 := Aside0.mk (fun (h : r < nodes.length) => (show ∀ x ∈ rs.take (j + 1), x < nodes.length from fun x hx => by
        obtain ⟨hl2, he⟩ := List.getElem?_eq_some_iff.1 hr
        rw [List.take_succ_eq_append_getElem hl2, List.mem_append, List.mem_singleton] at hx
        rcases hx with hx | rfl
        · exact HV.out x hx
        · rw [he]; exact h))
      have hlev := level_walk F p nodes empty most wr HA1.out r (by omega) (by omega)
      have HM2 := Aside0.mk hm
      clear hr hm
      by_cases hin : r < nodes.length
      · obtain ⟨q, hq, hq100⟩ := isn_of HA.out hw hin
        rw [hq.lv] at hlev
        have HLEV := Aside0.mk hlev
        have HREC := Aside0.mk (mark_walk F p M nodes empty most HMF.out hN 99 q r S D wr hq (by omega) HA1.out HS.out HB.out HO.out)
        have hq2 := q.lv_ge
        have hnl : ¬ q.lv < 0 := by omega
        clear hq hlev
        generalize q.lv = lq at *
        go_wp2_with (first | (go_at_call 29; refine HLEV.out.mono ?_; rintro e w2 ⟨rfl, rfl⟩) | (go_at_call 85; refine HREC.out.mono ?_; rintro e w5 ⟨rfl, hb5, hk5, D5, hs5, ho5⟩; have HB5 := Aside0.mk hb5; have HS5 := Aside0.mk hs5; have HO5 := Aside0.mk ho5; have HA5 := Aside0.mk (HA1.out.keeps HMF.out hk5); have HBW := Aside0.mk (HB1.out.trans (hk5.below (fun k hk => hk ▸ HMw.out) HB1.out.size)); clear hb5 hk5 hs5 ho5))
        have HF5 : Aside0 ((rs.take (j + 1)).foldl (markR nodes 99) [] = markR nodes 99 S r) := ⟨by rw [HN2.out, HFO.out]⟩
        have HV5 := Aside0.mk (HV2.out hin)
        go_roundg gm
        case measure => omega
        case rel => exact ⟨j + 1, _, D5, by omega, by go_num, HF5, HV5, HS5, HB5, HO5, HA5, HBW⟩
      · rw [lvAt_neg hin] at hlev
        have HLEV := Aside0.mk hlev
        have HNO : Aside0 (¬ ∀ r ∈ rs, r < nodes.length) := ⟨fun h => hin (h r HM2.out)⟩
        clear hlev hin
        go_wp2_with (first | (go_at_call 29; refine HLEV.out.mono ?_; rintro e w2 ⟨rfl, rfl⟩))
        go_ret2
        exact ⟨HB1.out, fun h => absurd h HNO.out, fun _ => rfl⟩
    · obtain rfl : j = rs.length := by omega
      have hv := HV.out
      have hfo := HFO.out
      rw [List.take_length] at hv hfo
      have HV3 := Aside0.mk hv
      have HFO3 := Aside0.mk hfo
      clear hv hfo
      have hsz := HS.out.size
      go_wp2_with (first | (at_len; refine wpList_len_own _ rfl _ 149 rfl 38 3 Try.underlying149 _ M S.length D rfl HO.out ?_))
      go_ret2
      exact ⟨HB1.out, fun _ => by rw [HFO3.out]; rfl, fun h => absurd HV3.out h⟩
end Go.Proofs.Ytbkbkgfpnefilaa.ar
namespace Go.Proofs.Ytbkbkgfpnefilaa.ar
open Go.RowKit Go.Proofs.YtbkbkgfpnefilaaW.PrintWords Go.Proofs.YtbkbkgfpnefilaaW.PrintLast Go.Proofs.YtbkbkgfpnefilaaW.PrintMore Go.Proofs.Ytbkbkgfpnefilaa.bs Go.ChangeShapes Go.Proofs.Ytbkbkgfpnefilaa.lb Go.Maps

/-- a node, or one below it -/
inductive Under (nodes : List Nd) : Nat → Nat → Prop
  | refl (i : Nat) : Under nodes i i
  | step {i k x : Nat} (hk : k ∈ kidsL nodes i) (h : Under nodes k x) : Under nodes i x
def keysL (K : List (Nat × Nat)) : List Nat := K.map Prod.fst
structure MvInv (src dst : List Nd) (K : List (Nat × Nat)) : Prop where
  nodup : (keysL K).Nodup
  rep : ∀ i j, (i, j) ∈ K → ∃ q, Rep src q i ∧ Rep dst q j
  closed : ∀ i, i ∈ keysL K → ∀ k ∈ kidsL src i, k ∈ keysL K
theorem MvInv.ext {src dst : List Nd} {K : List (Nat × Nat)} (h : MvInv src dst K) (l : List Nd) : MvInv src (dst ++ l) K :=
  ⟨h.nodup, fun i j hk => by obtain ⟨q, h1, h2⟩ := h.rep i j hk; exact ⟨q, h1, h2.ext l⟩, h.closed⟩
theorem MvInv.cons {src dst : List Nd} {K : List (Nat × Nat)} (h : MvInv src dst K) {i j : Nat} {q : Q} (hi : i ∉ keysL K) (h1 : Rep src q i) (h2 : Rep dst q j) (hc : ∀ k ∈ kidsL src i, k ∈ keysL K) : MvInv src dst ((i, j) :: K) := by
  refine ⟨List.nodup_cons.2 ⟨hi, h.nodup⟩, fun a b hk => ?_, fun a ha k hk => ?_⟩
  · rcases List.mem_cons.1 hk with e | hk
    · injection e with e1 e2
      subst e1 e2
      exact ⟨q, h1, h2⟩
    · exact h.rep a b hk
  · show k ∈ i :: keysL K
    rcases List.mem_cons.1 (show a ∈ i :: keysL K from ha) with rfl | ha
    · exact List.mem_cons_of_mem _ (hc k hk)
    · exact List.mem_cons_of_mem _ (h.closed a ha k hk)
theorem mem_keys {K : List (Nat × Nat)} {i j : Nat} (h : (i, j) ∈ K) : i ∈ keysL K := List.mem_map.2 ⟨(i, j), h, rfl⟩
theorem of_keys {K : List (Nat × Nat)} {i : Nat} (h : i ∈ keysL K) : ∃ j, (i, j) ∈ K := by
  obtain ⟨x, hx, rfl⟩ := List.mem_map.1 h
  exact ⟨x.2, hx⟩
/-- the map has just these pairs -/
structure MovedD (D : DataW Unit) (K : List (Nat × Nat)) : Prop where
  map : IsMap D
  has : ∀ i, Maps.has D (sk i) = decide (i ∈ keysL K)
  at_ : ∀ i j, (i, j) ∈ K → ∀ z, D.atKey (sk i) z = .lit (.int .u32 j)
theorem movedD_nil : MovedD (.map []) [] := ⟨isMap_empty, fun i => by rw [show decide (i ∈ keysL []) = false by simp [keysL]]; rfl, fun i j h => by simp at h⟩
theorem MovedD.put {D : DataW Unit} {K : List (Nat × Nat)} (h : MovedD D K) {i : Nat} (hi : i ∉ keysL K) (j : Nat) : MovedD (D.put (sk i) (.lit (.int .u32 j))) ((i, j) :: K) := by
  refine ⟨h.map.put _ _, fun a => ?_, fun a b hk z => ?_⟩
  · show _ = decide (a ∈ i :: keysL K)
    by_cases e : a = i
    · subst e; rw [has_put_same h.map (sk_key a)]; simp
    · rw [has_put_other (fun e2 => e (sk_inj e2)), h.has]; simp [e]
  · rcases List.mem_cons.1 hk with e | hk
    · injection e with e1 e2
      subst e1 e2
      exact atKey_put_same h.map (sk_key a) _ z
    · have hne : a ≠ i := fun e => hi (e ▸ mem_keys hk)
      rw [atKey_put_other (fun e2 => hne (sk_inj e2))]
      exact h.at_ a b hk z
/-- two arenas and the map between them -/
structure Mv (w0 w : World) (F1 F2 : Nat → Prop) (p1 p2 M : Nat) (src dst : List Nd) (em1 em2 : List Int) (m1 m2 : Int) (K : List (Nat × Nat)) : Prop where
  a1 : Ar w F1 p1 src em1 m1
  a2 : Hold w0 w F2 p2 dst em2 m2
  f1 : ∀ k, F1 k → k < w.heap.size
  dis : ∀ k, F1 k → ¬ F2 k
  mF1 : ¬ F1 M
  mF2 : ¬ F2 M
  mw : w0.heap.size ≤ M
  below : Below w0.heap.size w0 w
  own : ∃ D, MovedD D K ∧ w.ownsMap Try.prog 38 (plainElem (H := Unit) Try.prog 38) M K.length D
  wf : WF dst
  inv : MvInv src dst K
  lim : (dst.length : Int) ≤ m2
section
variable {w0 w w1 : World} {F1 F2 F2' : Nat → Prop} {p1 p2 M : Nat} {src dst dst' : List Nd} {em1 em2 em2' : List Int} {m1 m2 : Int} {K K' : List (Nat × Nat)}
theorem Mv.drop (h : Mv w0 w F1 F2 p1 p2 M src dst em1 em2 m1 m2 K) (hb : Below w.heap.size w w1) : Mv w0 w1 F1 F2 p1 p2 M src dst em1 em2 m1 m2 K := by
  obtain ⟨D, hD, es, cl, hk, rest⟩ := h.own
  exact ⟨h.a1.below hb, h.a2.below hb, fun k hk => Nat.lt_of_lt_of_le (h.f1 k hk) hb.size, h.dis, h.mF1, h.mF2, h.mw, chain h.below hb h.below.size, ⟨D, hD, es, cl, (hb.block M (blk_lt hk)).trans hk, rest⟩, h.wf, h.inv, h.lim⟩
theorem Mv.onto (h : Mv w0 w F1 F2 p1 p2 M src dst em1 em2 m1 m2 K) (ho : Onto w0 w w1 F2 F2' p2 dst' em2' m2) (hw : WF dst') (hx : ∃ l, dst' = dst ++ l) (hlm : (dst'.length : Int) ≤ m2) : Mv w0 w1 F1 F2' p1 p2 M src dst' em1 em2' m1 m2 K := by
  obtain ⟨l, rfl⟩ := hx
  obtain ⟨D, hD, es, cl, hk, rest⟩ := h.own
  have hM := blk_lt hk
  exact ⟨h.a1.kept ho.keeps.kept h.dis, ho.hold, fun k hk => Nat.lt_of_lt_of_le (h.f1 k hk) ho.keeps.size, fun k hk hf => h.dis k hk ((ho.old k (h.f1 k hk)).1 hf), h.mF1, fun hf => h.mF2 ((ho.old M hM).1 hf), h.mw, h.a2.belowK h.below ho.keeps, ⟨D, hD, es, cl, (ho.keeps.block M hM h.mF2).trans hk, rest⟩, hw, h.inv.ext l, hlm⟩
theorem Mv.mapped {D : DataW Unit} (h : Mv w0 w F1 F2 p1 p2 M src dst em1 em2 m1 m2 K) (hg : w.grownBy w1 (some M)) (hD : MovedD D K') (ho : w1.ownsMap Try.prog 38 (plainElem (H := Unit) Try.prog 38) M K'.length D) (hi : MvInv src dst K') : Mv w0 w1 F1 F2 p1 p2 M src dst em1 em2 m1 m2 K' := by
  have hk : Kept w w1 (fun k => k = M) := ⟨hg.size, fun k hk hn => hg.block k hk (fun e => hn (by injection e))⟩
  have hs := h.below.size
  have hmw := h.mw
  refine ⟨h.a1.kept hk (fun k hf e => h.mF1 (e ▸ hf)), h.a2.kept hk (fun k hf e => h.mF2 (e ▸ hf)), fun k hk => Nat.lt_of_lt_of_le (h.f1 k hk) hg.size, h.dis, h.mF1, h.mF2, h.mw, ?_, ⟨D, hD, ho⟩, h.wf, hi, h.lim⟩
  exact h.below.trans ⟨hg.os, hg.tape, hg.output, hg.size, fun k hk => hg.block k (by omega) (fun e => by injection e with e; omega)⟩
/-- a block of the call's own written -/
theorem Mv.put {b : Nat} {cs : Array Value} {t : TypeId} (h : Mv w0 w F1 F2 p1 p2 M src dst em1 em2 m1 m2 K) (hb : w.heap[b]? = some (.cells cs t (0, 0))) (h1 : ¬ F1 b) (h2 : ¬ F2 b) (hw : w0.heap.size ≤ b) (j : Nat) (u : Value) : Mv w0 (w.setCell ⟨b, j, none⟩ u) F1 F2 p1 p2 M src dst em1 em2 m1 m2 K := by
  have hk : Kept w (w.setCell ⟨b, j, none⟩ u) (fun k => k = b) := ⟨by simp, fun k hk hn => Below.heap_setCell _ _ _ k hn⟩
  obtain ⟨D, hD, es, cl, hm, rest⟩ := h.own
  have hne : M ≠ b := fun e => by rw [e, hb] at hm; cases hm
  exact ⟨h.a1.kept hk (fun k hf e => h1 (e ▸ hf)), h.a2.kept hk (fun k hf e => h2 (e ▸ hf)), fun k hk => by have := h.f1 k hk; simpa using this, h.dis, h.mF1, h.mF2, h.mw, h.below.setCell (p := ⟨b, j, none⟩) hw _, ⟨D, hD, es, cl, (Below.heap_setCell _ _ _ M hne).trans hm, rest⟩, h.wf, h.inv, h.lim⟩
end
end Go.Proofs.Ytbkbkgfpnefilaa.ar
namespace Go.Proofs.Ytbkbkgfpnefilaa.ar
open Go.RowKit Go.Proofs.YtbkbkgfpnefilaaW.PrintWords Go.Proofs.YtbkbkgfpnefilaaW.PrintLast Go.Proofs.YtbkbkgfpnefilaaW.PrintMore Go.Proofs.Ytbkbkgfpnefilaa.bs Go.ChangeShapes Go.Proofs.Ytbkbkgfpnefilaa.lb Go.Maps

theorem zeroU32 (w : World) : (zeroValue 38).run Try.prog w = .ok (.int .u32 0) w := by kernel_rfl
theorem add_len (nodes : List Nd) (most : Int) (k : Key) (c : Int) (B : Nat) (h1 : nodes.length < B) (h2 : most < B) : (addN nodes most k c).1.length < B := by
  unfold addN
  split
  · exact h1
  · split
    · exact h1
    · simp; omega
theorem join_len (nodes : List Nd) (most k0 k1 k2 k3 : Int) (B : Nat) (h1 : nodes.length < B) (h2 : most < B) : (joinN nodes most k0 k1 k2 k3).1.length < B := by
  unfold joinN
  split
  · split
    · exact h1
    · exact add_len _ _ _ _ B h1 h2
  · exact h1
theorem owns_onto {w0 w w1 : World} {F F' : Nat → Prop} {p M n : Nat} {nodes : List Nd} {empty : List Int} {most : Int} {D : DataW Unit} (h : w.ownsMap Try.prog 38 (plainElem (H := Unit) Try.prog 38) M n D) (ho : Onto w0 w w1 F F' p nodes empty most) (hM : ¬ F M) : w1.ownsMap Try.prog 38 (plainElem (H := Unit) Try.prog 38) M n D := by
  obtain ⟨es, cl, hk, rest⟩ := h
  exact ⟨es, cl, (ho.keeps.block M (blk_lt hk) hM).trans hk, rest⟩
theorem kids_leaf {nodes : List Nd} {f i : Nat} (h : Rep nodes (.leaf f) i) : kidsL nodes i = [] := by unfold kidsL; rw [h.1]; rfl
theorem MvInv.grown {src dst dst' : List Nd} {K : List (Nat × Nat)} (h : MvInv src dst K) (hx : ∃ l, dst' = dst ++ l) : MvInv src dst' K := by
  obtain ⟨l, rfl⟩ := hx
  exact h.ext l
/-- what a move leaves -/
def MvPost (w0 w : World) (F1 F2 : Nat → Prop) (p1 p2 M : Nat) (src dst : List Nd) (em1 em2 : List Int) (m1 m2 : Int) (K : List (Nat × Nat)) (i : Nat) (e : Ending) (w' : World) : Prop :=
  ∃ F2' dst' K', Mv w0 w' F1 F2' p1 p2 M src dst' em1 em2 m1 m2 K' ∧ (∃ l, dst' = dst ++ l) ∧ (∃ l, K' = l ++ K) ∧ dst'.length < 536870900 ∧
    (∀ j, dst.length ≤ j → j < dst'.length → ∃ a, (a, j) ∈ K') ∧ (∀ a ∈ keysL K', a ∈ keysL K ∨ Under src i a) ∧
    (∀ k, k < w.heap.size → ¬ F2 k → k ≠ M → w'.heap[k]? = w.heap[k]?) ∧ (∀ k, k < w.heap.size → (F2' k ↔ F2 k)) ∧ w.heap.size ≤ w'.heap.size ∧
    ((∃ j : Nat, e = .returned (.tuple #[.int .u32 j, .nilIface]) ∧ (i, j) ∈ K') ∨
     (e = .returned (.tuple #[.int .u32 0, .iface 59 (.int .i64 8)]) ∧ m2 ≤ dst'.length ∧ ∃ a, Under src i a ∧ a ∉ keysL K'))
set_option maxRecDepth 100000 in
set_option maxHeartbeats 4000000 in
theorem move_leaf (w0 w : World) (F1 F2 : Nat → Prop) (p1 p2 M : Nat) (src dst : List Nd) (em1 em2 : List Int) (m1 m2 : Int) (K : List (Nat × Nat)) (f i : Nat) (hR : Rep src (.leaf f) i) (hN : src.length < 536870900) (hm2 : m2 < 536870900) (hd : dst.length < 536870900) (hK : K.length ≤ src.length) (hV : Mv w0 w F1 F2 p1 p2 M src dst em1 em2 m1 m2 K) (hin : i ∉ keysL K) :
    Calls Try.prog 86 #[.pointer (some ⟨p1, 0, none⟩), .pointer (some ⟨p2, 0, none⟩), .int .u32 i, .map (some M)] w fun e w' => MvPost w0 w F1 F2 p1 p2 M src dst em1 em2 m1 m2 K i e w' := by
  have hil := hR.lt
  have hi32 : i < 4294967296 := by omega
  obtain ⟨D, hD, hO⟩ := hV.own
  have hhas : Maps.has D (sk i) = false := by rw [hD.has]; simpa using hin
  have HV := Aside0.mk hV
  have HD := Aside0.mk hD
  have HO := Aside0.mk hO
  have HR := Aside0.mk hR
  have HIN := Aside0.mk hin
  have hlev := level_walk F1 p1 src em1 m1 w hV.a1 i (by omega) (by omega)
  rw [hR.lv] at hlev
  have HLEV := Aside0.mk (show Calls Try.prog 29 #[.pointer (some ⟨p1, 0, none⟩), .int .u32 i] w fun e w' => e = .returned (.int .i64 2) ∧ w = w' from hlev)
  have hbit := bits_walk F1 p1 src em1 m1 w hV.a1 i (by omega) (by omega)
  rw [bitsAt_some (show src[(i : Int).toNat]? = some _ by rw [Int.toNat_natCast]; exact hR.1)] at hbit
  have HBIT := Aside0.mk (show Calls Try.prog 78 #[.pointer (some ⟨p1, 0, none⟩), .int .u32 i] w fun e w' => e = .returned (.int .u32 f) ∧ w = w' from hbit)
  have hmk := leaf_makes hV.wf hV.a2.ar.once m2 f hR.2
  have hlm := addN_lim dst m2 (leafKey f) (popN 32 f : Nat) hV.lim
  have hlen := add_len dst m2 (leafKey f) (popN 32 f : Nat) 536870900 hd hm2
  have hlf := hold_leaf hV.a2 hV.below.size f hR.2 (by omega)
  generalize addN dst m2 (leafKey f) (popN 32 f : Nat) = r at *
  obtain ⟨r1, r2, r3⟩ := r
  dsimp only at hmk hlen hlf hlm
  have HLM := Aside0.mk hlm
  have HMK := Aside0.mk hmk
  have HLF := Aside0.mk hlf
  have HLEN := Aside0.mk hlen
  clear hV hD hO hR hin hlev hbit hmk hlf hlen hlm
  by_cases h0 : r3 = 0
  · subst h0
    obtain ⟨j, hj, hrep⟩ := HMK.out.good rfl
    dsimp only at hj hrep
    subst hj
    have hjl := hrep.lt
    have HREP := Aside0.mk hrep
    have HL := Aside0.mk HLEN.out
    have hj32 : j < 4294967296 := by have := HLEN.out; omega
    clear hrep HLEN
    go_enter Try.func86, Try.ntmps86
    go_wp2_with (first | (at_lookup; refine wpList_lookup_own_ok_int _ rfl _ _ 151 rfl 38 38 .u32 lawU Try.underlying151 Try.underlying38 (zeroU32 _) M K.length D rfl HO.out _ _ rfl (keyU i hi32) ?_; intro c hat hwc; clear hat hwc) | (go_at_call 29; refine HLEV.out.mono ?_; rintro e w1 ⟨rfl, rfl⟩) | (go_at_call 78; refine HBIT.out.mono ?_; rintro e w1 ⟨rfl, rfl⟩) | (go_at_call 80; refine HLF.out.mono ?_; rintro e w2 ⟨rfl, F2', ho⟩; have HOT := Aside0.mk ho; have HO2 := Aside0.mk (owns_onto HO.out ho HV.out.mF2); clear ho; rw [show errOf 0 = .nilIface from rfl]) | (at_mapUpdate; refine wpList_mapUpdate_own _ rfl _ _ _ 151 rfl 38 38 lawU Try.underlying151 _ M K.length D rfl HO2.out (by unfold maxLen; omega) _ _ _ rfl rfl (keyU i hi32) _ [] (plainElem_int Try.underlying38 (sk_wf hj32)) ?_; intro w3 ho3 hg3; have HO3 := Aside0.mk ho3; have HG3 := Aside0.mk hg3; clear ho3 hg3; go_frame))
    go_ret2
    have hk := kids_leaf HR.out
    have hM := HO.out.lt
    refine ⟨F2', r1, (i, j) :: K, (HV.out.onto HOT.out HMK.out.wf (HMK.out.ext.imp fun l h => h.1) HLM.out).mapped HG3.out (HD.out.put HIN.out j) HO3.out ((HV.out.inv.grown (HMK.out.ext.imp fun l h => h.1)).cons HIN.out HR.out HREP.out (fun k h => by rw [hk] at h; simp at h)), HMK.out.ext.imp fun l h => h.1, ⟨[(i, j)], rfl⟩, HL.out, fun j' h1 h2 => ⟨i, ?_⟩, fun a ha => ?_, fun k h1 h2 h3 => ?_, HOT.out.old, Nat.le_trans HOT.out.keeps.size HG3.out.size, .inl ⟨j, rfl, by simp⟩⟩
    · obtain ⟨h3, _⟩ := HMK.out.new j' h1 h2
      obtain rfl : j = j' := by have : (j : Int) = j' := h3; omega
      simp
    · rcases List.mem_cons.1 (show a ∈ i :: keysL K from ha) with rfl | h
      · exact .inr (.refl _)
      · exact .inl h
    · exact (HG3.out.block k (Nat.lt_of_lt_of_le h1 HOT.out.keeps.size) (fun e => h3 (by injection e))).trans (HOT.out.keeps.block k h1 h2)
  · have hbad := HMK.out.bad h0
    dsimp only at hbad
    obtain ⟨rfl, rfl, rfl, hmost, hno⟩ := hbad
    have HNO := Aside0.mk hno
    clear hno
    go_enter Try.func86, Try.ntmps86
    go_wp2_with (first | (at_lookup; refine wpList_lookup_own_ok_int _ rfl _ _ 151 rfl 38 38 .u32 lawU Try.underlying151 Try.underlying38 (zeroU32 _) M K.length D rfl HO.out _ _ rfl (keyU i hi32) ?_; intro c hat hwc; clear hat hwc) | (go_at_call 29; refine HLEV.out.mono ?_; rintro e w1 ⟨rfl, rfl⟩) | (go_at_call 78; refine HBIT.out.mono ?_; rintro e w1 ⟨rfl, rfl⟩) | (go_at_call 80; refine HLF.out.mono ?_; rintro e w2 ⟨rfl, F2', ho⟩; have HOT := Aside0.mk ho; clear ho; rw [show errOf 8 = .iface 59 (.int .i64 8) from rfl]))
    go_ret2
    exact ⟨F2', r1, K, HV.out.onto HOT.out HMK.out.wf ⟨[], by simp⟩ HLM.out, ⟨[], by simp⟩, ⟨[], rfl⟩, HLEN.out, fun j h1 h2 => by omega, fun a ha => .inl ha, fun k h1 h2 _ => HOT.out.keeps.block k h1 h2, HOT.out.old, HOT.out.keeps.size, .inr ⟨rfl, hmost, i, .refl _, HIN.out⟩⟩
end Go.Proofs.Ytbkbkgfpnefilaa.ar
namespace Go.Proofs.Ytbkbkgfpnefilaa.ar
open Go.RowKit Go.Proofs.YtbkbkgfpnefilaaW.PrintWords Go.Proofs.YtbkbkgfpnefilaaW.PrintLast Go.Proofs.YtbkbkgfpnefilaaW.PrintMore Go.Proofs.Ytbkbkgfpnefilaa.bs Go.ChangeShapes Go.Proofs.Ytbkbkgfpnefilaa.lb Go.Maps

/-- what became since -/
structure MvStep (w : World) (F2 : Nat → Prop) (M : Nat) (src dst : List Nd) (K : List (Nat × Nat)) (i : Nat) (w' : World) (F2' : Nat → Prop) (dst' : List Nd) (K' : List (Nat × Nat)) : Prop where
  dext : ∃ l, dst' = dst ++ l
  kext : ∃ l, K' = l ++ K
  len : dst'.length < 536870900
  cover : ∀ j, dst.length ≤ j → j < dst'.length → ∃ a, (a, j) ∈ K'
  keys : ∀ a ∈ keysL K', a ∈ keysL K ∨ Under src i a
  keep : ∀ k, k < w.heap.size → ¬ F2 k → k ≠ M → w'.heap[k]? = w.heap[k]?
  old : ∀ k, k < w.heap.size → (F2' k ↔ F2 k)
  size : w.heap.size ≤ w'.heap.size
section
variable {w w1 w2 : World} {F F1 F2 : Nat → Prop} {M i k : Nat} {src dst dst1 dst2 : List Nd} {K K1 K2 : List (Nat × Nat)}
theorem MvStep.trans (h : MvStep w F M src dst K i w1 F1 dst1 K1) (h2 : MvStep w1 F1 M src dst1 K1 k w2 F2 dst2 K2) (hu : ∀ a, Under src k a → Under src i a) : MvStep w F M src dst K i w2 F2 dst2 K2 := by
  obtain ⟨l1, e1⟩ := h.dext
  obtain ⟨l2, e2⟩ := h2.dext
  obtain ⟨m1, f1⟩ := h.kext
  obtain ⟨m2, f2⟩ := h2.kext
  refine ⟨⟨l1 ++ l2, by rw [e2, e1, List.append_assoc]⟩, ⟨m2 ++ m1, by rw [f2, f1, List.append_assoc]⟩, h2.len, fun j hj1 hj2 => ?_, fun a ha => ?_, fun b hb hF hM => ?_, fun b hb => ?_, Nat.le_trans h.size h2.size⟩
  · by_cases hlt : j < dst1.length
    · obtain ⟨a, ha⟩ := h.cover j hj1 hlt
      exact ⟨a, by rw [f2]; exact List.mem_append_right _ ha⟩
    · exact h2.cover j (by omega) hj2
  · rcases h2.keys a ha with h3 | h3
    · exact h.keys a h3
    · exact .inr (hu a h3)
  · exact (h2.keep b (Nat.lt_of_lt_of_le hb h.size) (fun hf => hF ((h.old b hb).1 hf)) hM).trans (h.keep b hb hF hM)
  · exact (h2.old b (Nat.lt_of_lt_of_le hb h.size)).trans (h.old b hb)
theorem MvStep.refl (hl : dst.length < 536870900) : MvStep w F M src dst K i w F dst K :=
  ⟨⟨[], by simp⟩, ⟨[], rfl⟩, hl, fun j h1 h2 => by omega, fun a ha => .inl ha, fun _ _ _ _ => rfl, fun _ _ => Iff.rfl, Nat.le_refl _⟩
theorem MvStep.drop (h : MvStep w F M src dst K i w1 F1 dst1 K1) (hb : Below w1.heap.size w1 w2) : MvStep w F M src dst K i w2 F1 dst1 K1 :=
  ⟨h.dext, h.kext, h.len, h.cover, h.keys, fun b hb1 hF hM => (hb.block b (Nat.lt_of_lt_of_le hb1 h.size)).trans (h.keep b hb1 hF hM), h.old, Nat.le_trans h.size hb.size⟩
/-- a block written that is newer -/
theorem MvStep.put (h : MvStep w F M src dst K i w1 F1 dst1 K1) {b : Nat} (hb : w.heap.size ≤ b) (j : Nat) (u : Value) : MvStep w F M src dst K i (w1.setCell ⟨b, j, none⟩ u) F1 dst1 K1 :=
  ⟨h.dext, h.kext, h.len, h.cover, h.keys, fun c hb1 hF hM => (Below.heap_setCell _ _ _ c (by show c ≠ b; omega)).trans (h.keep c hb1 hF hM), h.old, by simpa using h.size⟩
end
/-- a move's end, out of what became since -/
theorem mv_post {w0 w w' : World} {F1 F2 F2' : Nat → Prop} {p1 p2 M : Nat} {src dst dst' : List Nd} {em1 em2 : List Int} {m1 m2 : Int} {K K' : List (Nat × Nat)} {i : Nat} {e : Ending} (hV : Mv w0 w' F1 F2' p1 p2 M src dst' em1 em2 m1 m2 K') (hS : MvStep w F2 M src dst K i w' F2' dst' K')
    (he : (∃ j : Nat, e = .returned (.tuple #[.int .u32 j, .nilIface]) ∧ (i, j) ∈ K') ∨ (e = .returned (.tuple #[.int .u32 0, .iface 59 (.int .i64 8)]) ∧ m2 ≤ dst'.length ∧ ∃ a, Under src i a ∧ a ∉ keysL K')) : MvPost w0 w F1 F2 p1 p2 M src dst em1 em2 m1 m2 K i e w' :=
  ⟨F2', dst', K', hV, hS.dext, hS.kext, hS.len, hS.cover, hS.keys, hS.keep, hS.old, hS.size, he⟩
theorem of_post {w0 w w' : World} {F1 F2 : Nat → Prop} {p1 p2 M : Nat} {src dst : List Nd} {em1 em2 : List Int} {m1 m2 : Int} {K : List (Nat × Nat)} {i : Nat} {e : Ending} (h : MvPost w0 w F1 F2 p1 p2 M src dst em1 em2 m1 m2 K i e w') : ∃ F2' dst' K', Mv w0 w' F1 F2' p1 p2 M src dst' em1 em2 m1 m2 K' ∧ MvStep w F2 M src dst K i w' F2' dst' K' ∧
    ((∃ j : Nat, e = .returned (.tuple #[.int .u32 j, .nilIface]) ∧ (i, j) ∈ K') ∨ (e = .returned (.tuple #[.int .u32 0, .iface 59 (.int .i64 8)]) ∧ m2 ≤ dst'.length ∧ ∃ a, Under src i a ∧ a ∉ keysL K')) := by
  obtain ⟨F2', dst', K', hV, h1, h2, h3, h4, h5, h6, h7, h8, he⟩ := h
  exact ⟨F2', dst', K', hV, ⟨h1, h2, h3, h4, h5, h6, h7, h8⟩, he⟩
set_option maxRecDepth 100000 in
set_option maxHeartbeats 1000000 in
theorem move_had (w0 w : World) (F1 F2 : Nat → Prop) (p1 p2 M : Nat) (src dst : List Nd) (em1 em2 : List Int) (m1 m2 : Int) (K : List (Nat × Nat)) (i : Nat) (hi32 : i < 4294967296) (hd : dst.length < 536870900) (hV : Mv w0 w F1 F2 p1 p2 M src dst em1 em2 m1 m2 K) (hin : i ∈ keysL K) :
    Calls Try.prog 86 #[.pointer (some ⟨p1, 0, none⟩), .pointer (some ⟨p2, 0, none⟩), .int .u32 i, .map (some M)] w fun e w' => MvPost w0 w F1 F2 p1 p2 M src dst em1 em2 m1 m2 K i e w' := by
  obtain ⟨D, hD, hO⟩ := hV.own
  obtain ⟨j, hj⟩ := of_keys hin
  have hhas : Maps.has D (sk i) = true := by rw [hD.has]; simpa using hin
  have hat0 := hD.at_ i j hj
  have HV := Aside0.mk hV
  have HO := Aside0.mk hO
  have HJ := Aside0.mk hj
  have HAT := Aside0.mk hat0
  clear hV hD hO hin hj hat0
  go_enter Try.func86, Try.ntmps86
  go_wp2_with (first | (at_lookup; refine wpList_lookup_own_ok_int _ rfl _ _ 151 rfl 38 38 .u32 lawU Try.underlying151 Try.underlying38 (zeroU32 _) M K.length D rfl HO.out _ _ rfl (keyU i hi32) ?_; intro c hat hwc; obtain rfl : c = (j : Int) := (by rw [HAT.out] at hat; injection hat with hat; injection hat with h1 h2; exact h2.symm); clear hat hwc))
  go_ret2
  exact mv_post HV.out (MvStep.refl hd) (.inl ⟨j, rfl, HJ.out⟩)
end Go.Proofs.Ytbkbkgfpnefilaa.ar
namespace Go.Proofs.Ytbkbkgfpnefilaa.ar
open Go.RowKit Go.Proofs.YtbkbkgfpnefilaaW.PrintWords Go.Proofs.YtbkbkgfpnefilaaW.PrintLast Go.Proofs.YtbkbkgfpnefilaaW.PrintMore Go.Proofs.Ytbkbkgfpnefilaa.bs Go.ChangeShapes Go.Proofs.Ytbkbkgfpnefilaa.lb Go.Maps

def uN (os : List Nat) : Array Value := (os.map fun (n : Nat) => Value.int .u32 (n : Int)).toArray
theorem uN_get (os : List Nat) (j : Nat) (h : j < os.length) : (uN os)[j]? = some (.int .u32 ((os.getD j 0 : Nat) : Int)) := by
  simp [uN, List.getD_eq_getElem?_getD, h]
theorem uN_set (os : List Nat) (j x : Nat) : (uN os).setIfInBounds j (.int .u32 (x : Int)) = uN (os.set j x) := by simp [uN, List.map_set]
theorem getD_set_same (os : List Nat) (j x : Nat) (h : j < os.length) : (os.set j x).getD j 0 = x := by simp [List.getD_eq_getElem?_getD, h]
theorem getD_set_ne (os : List Nat) (j t x : Nat) (h : t ≠ j) : (os.set j x).getD t 0 = os.getD t 0 := by
  rw [List.getD_eq_getElem?_getD, List.getD_eq_getElem?_getD, List.getElem?_set_ne (Ne.symm h)]
theorem kids_node {src : List Nd} {a b c d : Q} {i : Nat} (h : Rep src (.node a b c d) i) : ∃ k0 k1 k2 k3 : Nat, src[i]? = some ⟨⟨a.lv + 1, 0, k0, k1, k2, k3⟩, (Q.node a b c d).cnt⟩ ∧ kidsL src i = [k0, k1, k2, k3] ∧ Rep src a k0 ∧ Rep src b k1 ∧ Rep src c k2 ∧ Rep src d k3 ∧ b.lv = a.lv ∧ c.lv = a.lv ∧ d.lv = a.lv := by
  obtain ⟨k0, k1, k2, k3, hx, r0, r1, r2, r3, hb, hc, hd⟩ := h
  refine ⟨k0, k1, k2, k3, hx, ?_, r0, r1, r2, r3, hb, hc, hd⟩
  unfold kidsL; rw [hx]
  show (if 2 < a.lv + 1 then _ else _) = _
  rw [if_pos (by have := a.lv_ge; omega)]
  simp
theorem under_lv {src : List Nd} {i a : Nat} (h : Under src i a) : ∀ {q : Q}, Rep src q i → ∃ q', Rep src q' a ∧ q'.lv ≤ q.lv := by
  induction h with
  | refl i => exact fun hq => ⟨_, hq, Int.le_refl _⟩
  | step hk _ ih =>
    intro q hq
    cases q with
    | leaf f => rw [kids_leaf hq] at hk; simp at hk
    | node a b c d =>
      obtain ⟨k0, k1, k2, k3, hx, hkl, r0, r1, r2, r3, hb, hc, hd⟩ := kids_node hq
      have hlv : (Q.node a b c d).lv = a.lv + 1 := rfl
      rw [hkl] at hk
      simp only [List.mem_cons, List.not_mem_nil, or_false] at hk
      rcases hk with rfl | rfl | rfl | rfl
      · obtain ⟨q', h1, h2⟩ := ih r0; exact ⟨q', h1, by omega⟩
      · obtain ⟨q', h1, h2⟩ := ih r1; exact ⟨q', h1, by omega⟩
      · obtain ⟨q', h1, h2⟩ := ih r2; exact ⟨q', h1, by omega⟩
      · obtain ⟨q', h1, h2⟩ := ih r3; exact ⟨q', h1, by omega⟩
theorem keys_le {src dst : List Nd} {K : List (Nat × Nat)} (h : MvInv src dst K) : K.length ≤ src.length := by
  have := nodup_le src.length (keysL K) h.nodup (fun x hx => by
    obtain ⟨j, hj⟩ := of_keys hx
    obtain ⟨q, hq, _⟩ := h.rep x j hj
    exact hq.lt)
  simpa [keysL] using this
end Go.Proofs.Ytbkbkgfpnefilaa.ar
