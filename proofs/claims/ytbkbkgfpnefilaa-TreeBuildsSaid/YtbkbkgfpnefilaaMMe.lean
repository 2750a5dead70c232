/- The walk over tree.Box. -/
import Derived.Test.YtbkbkgfpnefilaaMQq
import Derived.Test.YtbkbkgfpnefilaaMAl
import Derived.Maps.OwnSet
import Derived.Maps.RangeWalk
import Derived.Test.YtbkbkgfpnefilaaMSh
namespace Go.Proofs.Ytbkbkgfpnefilaa.ar
open Go.RowKit Go.Proofs.YtbkbkgfpnefilaaW.PrintWords Go.Proofs.YtbkbkgfpnefilaaW.PrintLast Go.Proofs.YtbkbkgfpnefilaaW.PrintMore Go.Proofs.Ytbkbkgfpnefilaa.bs Go.ChangeShapes Go.Proofs.Ytbkbkgfpnefilaa.lb Go.Maps

theorem lawU : Keyed Try.prog 38 := int_keyed Try.underlying38
theorem zeroInt (w : World) : (zeroValue 3).run Try.prog w = .ok (.int .i64 0) w := by kernel_rfl
def sk (i : Nat) : Lit := .int .u32 i
theorem sk_wf {i : Nat} (h : i < 4294967296) : (Lit.int .u32 i).wf = true := by
  simp [Lit.wf, IntKind.min, IntKind.max, IntKind.signed, IntKind.bits]
  omega
theorem keyU (i : Nat) (h : i < 4294967296) : keyOf Try.prog 38 (.int .u32 i) = some (sk i) := keyOf_int_mk Try.underlying38 (sk_wf h)
theorem sk_key (i : Nat) : WideAt.IsKeyLit (sk i) := trivial
theorem sk_inj {i j : Nat} (h : sk i = sk j) : i = j := by
  unfold sk at h
  injection h with h1 h2
  omega
theorem nodup_le : ∀ (n : Nat) (S : List Nat), S.Nodup → (∀ x ∈ S, x < n) → S.length ≤ n
  | 0, S, _, h => by
    cases S with
    | nil => exact Nat.le_refl _
    | cons x l => exact absurd (h x (by simp)) (by omega)
  | n + 1, S, hn, h => by
    by_cases hm : n ∈ S
    · have h1 := nodup_le n (S.erase n) (hn.erase n) (fun x hx => by
        have h2 := (hn.mem_erase_iff).1 hx
        have := h x h2.2
        omega)
      rw [List.length_erase_of_mem hm] at h1
      omega
    · have h1 := nodup_le n S hn (fun x hx => by
        have := h x hx
        have : x ≠ n := fun e => hm (e ▸ hx)
        omega)
      omega
/-- the kids of the i-th node; none of a leaf -/
def kidsL (nodes : List Nd) (i : Nat) : List Nat := match nodes[i]? with
  | some x => if 2 < x.key.level then [x.key.k0.toNat, x.key.k1.toNat, x.key.k2.toNat, x.key.k3.toNat] else []
  | none => []
/-- those marked behind the call -/
def markR (nodes : List Nd) : Nat → List Nat → Nat → List Nat
  | 0, S, _ => S
  | n + 1, S, i => if i ∈ S then S else (kidsL nodes i).foldl (markR nodes n) (i :: S)
/-- the map has just these, each once -/
structure SeenD (D : DataW Unit) (S : List Nat) : Prop where
  tidy : Tidy D
  nodup : S.Nodup
  size : Maps.size D = S.length
  has : ∀ j, Maps.has D (sk j) = decide (j ∈ S)
  at_ : ∀ j, D.atKey (sk j) (.lit (.int .i64 0)) = .lit (.int .i64 (if j ∈ S then 1 else 0))
theorem seenD_nil : SeenD (.map []) [] := ⟨tidy_empty, List.nodup_nil, rfl, fun j => by rw [show decide (j ∈ ([] : List Nat)) = false by simp]; rfl, fun j => by simp [DataW.atKey]⟩
theorem SeenD.put {D : DataW Unit} {S : List Nat} (h : SeenD D S) {i : Nat} (hi : i ∉ S) : SeenD (D.put (sk i) (.lit (.int .i64 1))) (i :: S) := by
  have hm := h.tidy.isMap
  have hh : Maps.has D (sk i) = false := by rw [h.has]; simpa using hi
  refine ⟨h.tidy.put (sk_key i) _, List.nodup_cons.2 ⟨hi, h.nodup⟩, by rw [size_put h.tidy, hh]; simp [h.size], fun j => ?_, fun j => ?_⟩
  · by_cases e : j = i
    · subst e; rw [has_put_same hm (sk_key j)]; simp
    · rw [has_put_other (fun e2 => e (sk_inj e2)), h.has]; simp [e]
  · by_cases e : j = i
    · subst e; rw [atKey_put_same hm (sk_key j)]; simp
    · rw [atKey_put_other (fun e2 => e (sk_inj e2)), h.at_]; simp [e]
theorem Ar.keeps {w w' : World} {F : Nat → Prop} {p M : Nat} {nodes : List Nd} {empty : List Int} {most : Int} (h : Ar w F p nodes empty most) (hM : ¬ F M) (hk : Keeps (fun k => k = M) w w') : Ar w' F p nodes empty most :=
  h.kept hk.kept (fun _ hf e => hM (e ▸ hf))
theorem index4n (w : World) (a b c d : Nat) : ∀ j : Nat, j < 4 → (Instr.index 129 (.agg #[.int .u32 a, .int .u32 b, .int .u32 c, .int .u32 d]) (.int .i64 j)).run Try.prog w = .ok (.int .u32 (([a, b, c, d].getD j 0 : Nat) : Int)) w
  | 0, _ => by kernel_rfl
  | 1, _ => by kernel_rfl
  | 2, _ => by kernel_rfl
  | 3, _ => by kernel_rfl
  | n + 4, h => by omega
theorem Keeps.drop {F : Nat → Prop} {w w1 w2 : World} (h : Keeps F w w1) (hb : Below w1.heap.size w1 w2) : Keeps F w w2 :=
  ⟨hb.os.trans h.os, hb.tape.trans h.tape, hb.output.trans h.output, Nat.le_trans h.size hb.size, fun k hk hn => (hb.block k (Nat.lt_of_lt_of_le hk h.size)).trans (h.block k hk hn)⟩
theorem ownsU_below {w w1 : World} {M n : Nat} {D : DataW Unit} (h : w.ownsMap Try.prog 38 (plainElem (H := Unit) Try.prog 3) M n D) (hb : Below w.heap.size w w1) : w1.ownsMap Try.prog 38 (plainElem (H := Unit) Try.prog 3) M n D := by
  obtain ⟨es, cl, hk, rest⟩ := h
  exact ⟨es, cl, (hb.block M (blk_lt hk)).trans hk, rest⟩
theorem foldl_take_succ {α β : Type} (f : β → α → β) (l : List α) (b : β) (j : Nat) (x : α) (h : l[j]? = some x) : (l.take (j + 1)).foldl f b = f ((l.take j).foldl f b) x := by
  obtain ⟨hlt, he⟩ := List.getElem?_eq_some_iff.1 h
  rw [List.take_succ_eq_append_getElem hlt, List.foldl_append, he]
  rfl
def MarkPost (N M : Nat) (S' : List Nat) (w : World) (e : Ending) (w' : World) : Prop :=
  e = .returned (.tuple #[]) ∧ (∀ x ∈ S', x < N) ∧ Keeps (fun k => k = M) w w' ∧ ∃ D, SeenD D S' ∧ w'.ownsMap Try.prog 38 (plainElem (H := Unit) Try.prog 3) M S'.length D
set_option maxRecDepth 100000 in
set_option maxHeartbeats 2000000 in
theorem mark_walk (F : Nat → Prop) (p M : Nat) (nodes : List Nd) (empty : List Int) (most : Int) (hMF : ¬ F M) (hN : nodes.length < 536870912) : ∀ (n : Nat) (q : Q) (i : Nat) (S : List Nat) (D : DataW Unit) (w : World), Rep nodes q i → q.lv ≤ (n : Int) + 1 → Ar w F p nodes empty most → SeenD D S → (∀ x ∈ S, x < nodes.length) → w.ownsMap Try.prog 38 (plainElem (H := Unit) Try.prog 3) M S.length D →
    Calls Try.prog 85 #[.pointer (some ⟨p, 0, none⟩), .int .u32 i, .map (some M)] w fun e w' => MarkPost nodes.length M (markR nodes n S i) w e w' := by
  intro n
  induction n with
  | zero => intro q i S D w hR hl; have := q.lv_ge; omega
  | succ n ih =>
    intro q i S0 D w hR hl hA hS hSb hO
    have hil := hR.lt
    have hi32 : i < 4294967296 := by omega
    have hSl : S0.length ≤ nodes.length := nodup_le _ S0 hS.nodup hSb
    have hrun : (Instr.lookup 149 (.map (some M)) (.int .u32 i) false).run Try.prog w = .ok (.int .i64 (if i ∈ S0 then 1 else 0)) w := by
      obtain ⟨c, hrun, hat, _⟩ := hO.lookup_int lawU Try.underlying149 Try.underlying3 (zeroInt _) (keyU i hi32)
      rw [hS.at_] at hat
      injection hat with hat
      injection hat with _ h2
      rw [hrun, ← h2]
    have HA := Aside0.mk hA
    have HO := Aside0.mk hO
    have HS := Aside0.mk hS
    have HR := Aside0.mk hR
    have HSb := Aside0.mk hSb
    have HIH := Aside0.mk ih
    clear hA hO hS hR hSb ih
    by_cases hin : i ∈ S0
    · as_aux_lemma =>
      rw [if_pos hin] at hrun
      have hres : Aside0 (markR nodes (n + 1) S0 i = S0) := ⟨if_pos hin⟩
      clear hin
      go_enter Try.func85, Try.ntmps85
      go_wp2_with (fail)
      go_end0
      rw [hres.out]
      exact ⟨rfl, HSb.out, Keeps.refl _ w, D, HS.out, HO.out⟩
    · rw [if_neg hin] at hrun
      have hS1 := HS.out.put hin
      have HS1 := Aside0.mk hS1
      have HB1 := Aside0.mk (show ∀ x ∈ i :: S0, x < nodes.length from fun x hx => (List.mem_cons.1 hx).elim (fun e => e ▸ hil) (HSb.out x))
      have HRES : Aside0 (markR nodes (n + 1) S0 i = (kidsL nodes i).foldl (markR nodes n) (i :: S0)) := ⟨if_neg hin⟩
      clear hin hS1
      go_enter Try.func85, Try.ntmps85
      go_wp2_with (first | (at_mapUpdate; refine wpList_mapUpdate_own _ rfl _ _ _ 149 rfl 38 3 lawU Try.underlying149 _ M S0.length D rfl HO.out (by unfold maxLen; omega) _ _ _ rfl rfl (keyU i hi32) _ [] (plainElem_int Try.underlying3 (by decide)) ?_; intro w1 ho1 hg1; have HO1 := Aside0.mk ho1; have HG1 := Aside0.mk hg1; clear ho1 hg1; go_frame))
      have KK1 : Aside0 (Keeps (fun k => k = M) w w1) := ⟨⟨HG1.out.os, HG1.out.tape, HG1.out.output, HG1.out.size, fun k hk hn => HG1.out.block k hk (fun e => hn (by injection e))⟩⟩
      have HA1 := Aside0.mk (HA.out.keeps hMF KK1.out)
      clear HG1 HA HO hrun
      have hlev := level_walk F p nodes empty most w1 HA1.out i (by omega) (by omega)
      rw [HR.out.lv] at hlev
      have HLEV := Aside0.mk hlev
      clear hlev
      have hq2 := q.lv_ge
      cases q with
      | leaf f =>
        have hkl : kidsL nodes i = [] := by unfold kidsL; rw [HR.out.1]; rfl
        rw [hkl] at HRES
        have hlv : (Q.leaf f).lv = 2 := rfl
        rw [hlv] at HLEV
        clear hlv hkl hq2 hl
        go_wp2_with (go_at_call 29; refine HLEV.out.mono ?_; rintro e w2 ⟨rfl, rfl⟩)
        go_end0
        rw [HRES.out]
        exact ⟨rfl, HB1.out, KK1.out, _, HS1.out, HO1.out⟩
      | node a b c d =>
        obtain ⟨k0, k1, k2, k3, hx, r0, r1, r2, r3, hb, hc, hd⟩ := HR.out
        have hal : 2 < (Q.node a b c d).lv := by have := a.lv_ge; show 2 < a.lv + 1; omega
        have hlq : (Q.node a b c d).lv = a.lv + 1 := rfl
        have hkl : kidsL nodes i = [k0, k1, k2, k3] := by
          unfold kidsL; rw [hx]
          show (if 2 < a.lv + 1 then _ else _) = _
          rw [if_pos (by omega)]
          simp
        have hkey : keyAt nodes i = ⟨a.lv + 1, 0, k0, k1, k2, k3⟩ := keyAt_some (by rw [Int.toNat_natCast]; exact hx)
        have hkd := kids_walk F p nodes empty most w1 HA1.out i (by omega) (by omega)
        rw [hkey] at hkd
        unfold kidsVal at hkd
        dsimp only at hkd
        have HKD := Aside0.mk hkd
        have HKL : Aside0 (∀ j, j < 4 → ∃ qk, Rep nodes qk ([k0, k1, k2, k3].getD j 0) ∧ qk.lv = a.lv) := ⟨fun j hj => by
          have : j = 0 ∨ j = 1 ∨ j = 2 ∨ j = 3 := by omega
          rcases this with rfl | rfl | rfl | rfl
          · exact ⟨a, r0, rfl⟩
          · exact ⟨b, r1, hb⟩
          · exact ⟨c, r2, hc⟩
          · exact ⟨d, r3, hd⟩⟩
        have hidx := fun (w : World) (j : Nat) (h : j < 4) => index4n w k0 k1 k2 k3 j h
        rw [hkl] at HRES
        generalize (Q.node a b c d).lv = lq at *
        have HLQ : Aside0 (a.lv ≤ (n : Int) + 1) := ⟨by omega⟩
        clear hkey hkl hkd hx r0 r1 r2 r3 hb hc hd hlq hl hq2
        go_wp2_with (first | (go_at_call 29; refine HLEV.out.mono ?_; rintro e w2 ⟨rfl, rfl⟩) | (go_at_call 77; refine HKD.out.mono ?_; rintro e w3 ⟨rfl, hb3⟩; have HB3 := Aside0.mk hb3; clear hb3))
        have HO3 := Aside0.mk (ownsU_below HO1.out HB3.out)
        have HA3 := Aside0.mk (HA1.out.below HB3.out)
        have KK3 := Aside0.mk (KK1.out.drop HB3.out)
        clear HKD HLEV HB3 HO1 HA1 KK1 hal
        obtain ⟨L, hL⟩ : ∃ L, [k0, k1, k2, k3] = L := ⟨_, rfl⟩
        have HLl : Aside0 (L.length = 4) := ⟨by rw [← hL]; rfl⟩
        rw [hL] at HKL HRES
        simp only [hL] at hidx
        clear hL
        go_loopg [23] 4 (fun kq c23 w' => ∃ (j : Nat) (S : List Nat) (D : DataW Unit), j + kq = 4 ∧ c23 = .int .i64 j ∧ Aside0 ((L.take j).foldl (markR nodes n) (i :: S0) = S) ∧ Aside0 (SeenD D S) ∧ Aside0 (∀ x ∈ S, x < nodes.length) ∧ Aside0 (w'.ownsMap Try.prog 38 (plainElem (H := Unit) Try.prog 3) M S.length D) ∧ Aside0 (Ar w' F p nodes empty most) ∧ Aside0 (Keeps (fun k => k = M) w w'))
        case atStart => exact ⟨0, _, _, by omega, rfl, ⟨rfl⟩, HS1, HB1, HO3, HA3, KK3⟩
        case round =>
          clear HS1 HB1 HO3 HA3 KK3
          obtain ⟨j, S, D, hj, rfl, HF, HS, HB, HO, HA, KK⟩ := hrel
          by_cases h4 : j < 4
          · obtain ⟨gm, rfl⟩ : ∃ m, gk = m + 1 := ⟨gk - 1, by omega⟩
            have hi := fun w => hidx w j h4
            obtain ⟨qk, hqr, hql⟩ := HKL.out j h4
            have hlt : j < L.length := by rw [HLl.out]; exact h4
            have hget : L[j]? = some (L.getD j 0) := by rw [List.getD_eq_getElem?_getD, List.getElem?_eq_getElem hlt]; rfl
            have HN2 := Aside0.mk (foldl_take_succ (markR nodes n) L (i :: S0) j _ hget)
            generalize L.getD j 0 = kv at *
            have HREC := Aside0.mk (HIH.out qk kv S D wr hqr (by rw [hql]; exact HLQ.out) HA.out HS.out HB.out HO.out)
            clear hidx hget hlt hqr hql
            go_wp2_with (fail)
            refine HREC.out.mono ?_
            rintro e w5 ⟨rfl, hb5, hk5, D5, hs5, ho5⟩
            have HB5 := Aside0.mk hb5
            have HS5 := Aside0.mk hs5
            have HO5 := Aside0.mk ho5
            have HA5 := Aside0.mk (HA.out.keeps hMF hk5)
            have KK5 := Aside0.mk (KK.out.trans hk5 (fun _ hk => .inl hk))
            have HF5 : Aside0 ((L.take (j + 1)).foldl (markR nodes n) (i :: S0) = markR nodes n S kv) := ⟨by rw [HN2.out, HF.out]⟩
            clear hb5 hk5 hs5 ho5 HREC HB HS HO HA KK HN2 HF hi
            go_wp2_with (fail)
            go_roundg gm
            case measure => omega
            case rel => exact ⟨j + 1, _, D5, by omega, by go_num, HF5, HS5, HB5, HO5, HA5, KK5⟩
          · obtain rfl : j = 4 := by omega
            have hfin : Aside0 (markR nodes (n + 1) S0 i = S) := ⟨by rw [HRES.out, ← HF.out, List.take_of_length_le (by rw [HLl.out]; omega)]⟩
            go_wp2_with (fail)
            go_end0
            rw [hfin.out]
            exact ⟨rfl, HB.out, KK.out, D, HS.out, HO.out⟩
end Go.Proofs.Ytbkbkgfpnefilaa.ar
namespace Go.Proofs.Ytbkbkgfpnefilaa.tr
open Go.RowKit Go.Proofs.Ytbkbkgfpnefilaa.PTreeBuilds Go.Proofs.Ytbkbkgfpnefilaa.lb Go.Proofs.Ytbkbkgfpnefilaa.ar Go.Proofs.Ytbkbkgfpnefilaa.bs

def putQ : Q → Int → Int → Cl → Bool → Q
  | .leaf f, _, _, x, live => .leaf (withV f x.f0.f0 x.f0.f1 x.f1 live).toNat
  | .node a b c d, la, lb, x, live =>
    if x.f0.f0 - la < 2 ^ a.ex then (if x.f0.f1 - lb < 2 ^ a.ex then .node (putQ a la lb x live) b c d else .node a b (putQ c la (lb + 2 ^ a.ex) x live) d)
    else (if x.f0.f1 - lb < 2 ^ a.ex then .node a (putQ b (la + 2 ^ a.ex) lb x live) c d else .node a b c (putQ d (la + 2 ^ a.ex) (lb + 2 ^ a.ex) x live))
theorem putQ_lv : ∀ (q : Q) (_ : q.ok) (la lb : Int) (x : Cl) (live : Bool), (putQ q la lb x live).lv = q.lv
  | .leaf _, _, _, _, _, _ => rfl
  | .node a b c d, hok, la, lb, x, live => by
    obtain ⟨ha, _⟩ := hok
    unfold putQ
    split <;> split
    · show (putQ a la lb x live).lv + 1 = a.lv + 1
      rw [putQ_lv a ha]
    · rfl
    · rfl
    · rfl
theorem putQ_ok : ∀ (q : Q) (_ : q.ok) (la lb : Int) (x : Cl) (live : Bool), (putQ q la lb x live).ok
  | .leaf f, hf, _, _, x, live => by
    have := withV_bd f x.f0.f0 x.f0.f1 x.f1 live ⟨by omega, by have : f < 4294967296 := hf; omega⟩
    show (withV f x.f0.f0 x.f0.f1 x.f1 live).toNat < 4294967296
    omega
  | .node a b c d, hok, la, lb, x, live => by
    obtain ⟨ha, hb, hc, hd, eb, ec, ed⟩ := hok
    unfold putQ
    split <;> split
    · exact ⟨putQ_ok a ha _ _ _ _, hb, hc, hd, by rw [putQ_lv a ha]; exact eb, by rw [putQ_lv a ha]; exact ec, by rw [putQ_lv a ha]; exact ed⟩
    · exact ⟨ha, hb, putQ_ok c hc _ _ _ _, hd, eb, by rw [putQ_lv c hc]; exact ec, ed⟩
    · exact ⟨ha, putQ_ok b hb _ _ _ _, hc, hd, by rw [putQ_lv b hb]; exact eb, ec, ed⟩
    · exact ⟨ha, hb, hc, putQ_ok d hd _ _ _ _, eb, ec, by rw [putQ_lv d hd]; exact ed⟩
theorem pow_mod4 (n : Nat) (h : 2 ≤ n) : (2 : Int) ^ n % 4 = 0 := by
  obtain ⟨m, rfl⟩ : ∃ m, n = m + 1 + 1 := ⟨n - 2, by omega⟩
  rw [two_succ, two_succ]
  omega
theorem ex_ge2 : ∀ q : Q, 2 ≤ q.ex
  | .leaf _ => Nat.le_refl 2
  | .node a _ _ _ => by have := ex_ge2 a; show 2 ≤ a.ex + 1; omega
theorem putQ_has : ∀ (q : Q) (_ : q.ok) (la lb : Int) (x : Cl) (live : Bool), ClOk x → la % 4 = 0 → lb % 4 = 0 → InQ q.ex (x.f0.f0 - la) (x.f0.f1 - lb) x.f1 → ∀ u v t, InQ q.ex u v t →
    (putQ q la lb x live).has u v t = if u = x.f0.f0 - la ∧ v = x.f0.f1 - lb ∧ t = x.f1 then live else q.has u v t
  | .leaf f, hf, la, lb, x, live, hx, ha, hb, hi, u, v, t, hu => by
    have hf' : f < 4294967296 := hf
    have hbd := withV_bd f x.f0.f0 x.f0.f1 x.f1 live ⟨by omega, by omega⟩
    obtain ⟨x0, x1, y0, y1, h0, h1⟩ := hi
    obtain ⟨u0, u1, v0, v1, t0, t1⟩ := hu
    have e4 : (2 : Int) ^ (Q.leaf f).ex = 4 := rfl
    rw [e4] at x1 y1 u1 v1
    have hw := with_bits f x.f0.f0 x.f0.f1 x.f1 ⟨by omega, by omega⟩ hx.a hx.b hx.h live (8 * v + 2 * u + t).toNat (by omega)
    show decide (bitv (((withV f x.f0.f0 x.f0.f1 x.f1 live).toNat : Nat) : Int) (8 * v + 2 * u + t).toNat = 1) = _
    rw [Int.toNat_of_nonneg hbd.1, hw]
    have hiff : (8 * v + 2 * u + t).toNat = bitNo x.f0.f0 x.f0.f1 x.f1 ↔ u = x.f0.f0 - la ∧ v = x.f0.f1 - lb ∧ t = x.f1 := by
      unfold bitNo
      omega
    by_cases he : u = x.f0.f0 - la ∧ v = x.f0.f1 - lb ∧ t = x.f1
    · rw [if_pos (hiff.2 he), if_pos he]
      cases live <;> rfl
    · rw [if_neg (fun h => he (hiff.1 h)), if_neg he]
      rfl
  | .node a b c d, hok, la, lb, x, live, hx, hla, hlb, hi, u, v, t, hu => by
    obtain ⟨ha, hb, hc, hd, eb, ec, ed⟩ := hok
    have hm := pow_mod4 a.ex (ex_ge2 a)
    have hbx := ex_same eb
    have hcx := ex_same ec
    have hdx := ex_same ed
    have hpx := ex_same (putQ_lv a ha la lb x live)
    have hhas : ∀ (a b c d : Q) u v t, (Q.node a b c d).has u v t = if u < 2 ^ a.ex then (if v < 2 ^ a.ex then a.has u v t else c.has u (v - 2 ^ a.ex) t) else (if v < 2 ^ a.ex then b.has (u - 2 ^ a.ex) v t else d.has (u - 2 ^ a.ex) (v - 2 ^ a.ex) t) := fun _ _ _ _ _ _ _ => rfl
    have hex : (Q.node a b c d).ex = a.ex + 1 := rfl
    rw [hex] at hi hu
    have Ha := putQ_has a ha la lb x live hx hla hlb
    have Hb := putQ_has b hb (la + 2 ^ a.ex) lb x live hx (by omega) hlb
    have Hc := putQ_has c hc la (lb + 2 ^ a.ex) x live hx hla (by omega)
    have Hd := putQ_has d hd (la + 2 ^ a.ex) (lb + 2 ^ a.ex) x live hx (by omega) (by omega)
    rw [hbx] at Hb
    rw [hcx] at Hc
    rw [hdx] at Hd
    have iq : ∀ n u v t, InQ n u v t ↔ 0 ≤ u ∧ u < 2 ^ n ∧ 0 ≤ v ∧ v < 2 ^ n ∧ 0 ≤ t ∧ t < 2 := fun n u v t => ⟨fun ⟨a, b, c, d, e, f⟩ => ⟨a, b, c, d, e, f⟩, fun ⟨a, b, c, d, e, f⟩ => ⟨a, b, c, d, e, f⟩⟩
    rw [iq, two_succ] at hi hu
    simp only [iq] at Ha Hb Hc Hd
    unfold putQ
    obtain ⟨H, hH⟩ : ∃ H, (2 : Int) ^ a.ex = H := ⟨_, rfl⟩
    rw [hH] at hi hu Ha Hb Hc Hd hm ⊢
    by_cases h1 : x.f0.f0 - la < H
    · by_cases h2 : x.f0.f1 - lb < H
      · rw [if_pos h1, if_pos h2, hhas, hhas, hpx, hH]
        by_cases g1 : u < H
        · by_cases g2 : v < H
          · rw [if_pos g1, if_pos g2, if_pos g1, if_pos g2]
            exact Ha (by omega) u v t (by omega)
          · rw [if_pos g1, if_neg g2, if_pos g1, if_neg g2, if_neg (by omega)]
        · rw [if_neg (show ¬ (u = x.f0.f0 - la ∧ v = x.f0.f1 - lb ∧ t = x.f1) by omega), if_neg g1, if_neg g1]
      · rw [if_pos h1, if_neg h2, hhas, hhas, hH]
        by_cases g1 : u < H
        · by_cases g2 : v < H
          · rw [if_pos g1, if_pos g2, if_pos g1, if_pos g2, if_neg (by omega)]
          · rw [if_pos g1, if_neg g2, if_pos g1, if_neg g2, Hc (by omega) u (v - H) t (by omega)]
            by_cases e : u = x.f0.f0 - la ∧ v = x.f0.f1 - lb ∧ t = x.f1
            · rw [if_pos e, if_pos (by omega)]
            · rw [if_neg e, if_neg (by omega)]
        · rw [if_neg (show ¬ (u = x.f0.f0 - la ∧ v = x.f0.f1 - lb ∧ t = x.f1) by omega), if_neg g1, if_neg g1]
    · by_cases h2 : x.f0.f1 - lb < H
      · rw [if_neg h1, if_pos h2, hhas, hhas, hH]
        by_cases g1 : u < H
        · rw [if_neg (show ¬ (u = x.f0.f0 - la ∧ v = x.f0.f1 - lb ∧ t = x.f1) by omega), if_pos g1, if_pos g1]
        · by_cases g2 : v < H
          · rw [if_neg g1, if_pos g2, if_neg g1, if_pos g2, Hb (by omega) (u - H) v t (by omega)]
            by_cases e : u = x.f0.f0 - la ∧ v = x.f0.f1 - lb ∧ t = x.f1
            · rw [if_pos e, if_pos (by omega)]
            · rw [if_neg e, if_neg (by omega)]
          · rw [if_neg g1, if_neg g2, if_neg g1, if_neg g2, if_neg (by omega)]
      · rw [if_neg h1, if_neg h2, hhas, hhas, hH]
        by_cases g1 : u < H
        · rw [if_neg (show ¬ (u = x.f0.f0 - la ∧ v = x.f0.f1 - lb ∧ t = x.f1) by omega), if_pos g1, if_pos g1]
        · by_cases g2 : v < H
          · rw [if_neg g1, if_pos g2, if_neg g1, if_pos g2, if_neg (by omega)]
          · rw [if_neg g1, if_neg g2, if_neg g1, if_neg g2, Hd (by omega) (u - H) (v - H) t (by omega)]
            by_cases e : u = x.f0.f0 - la ∧ v = x.f0.f1 - lb ∧ t = x.f1
            · rw [if_pos e, if_pos (by omega)]
            · rw [if_neg e, if_neg (by omega)]
end Go.Proofs.Ytbkbkgfpnefilaa.tr
namespace Go.Proofs.Ytbkbkgfpnefilaa.tr
open Go.RowKit Go.Proofs.Ytbkbkgfpnefilaa.PTreeBuilds Go.Proofs.YtbkbkgfpnefilaaW.PrintWords Go.Proofs.Ytbkbkgfpnefilaa.lb Go.Proofs.Ytbkbkgfpnefilaa.ar Go.Proofs.Ytbkbkgfpnefilaa.bs

/-- without a cell -/
def lessR (l : List Rc) (c : Rc) : List Rc := l.filter (fun x => decide (x ≠ c))
theorem mem_lessR (c y : Rc) (l : List Rc) : y ∈ lessR l c ↔ y ∈ l ∧ y ≠ c := by unfold lessR; rw [List.mem_filter, decide_eq_true_iff]
theorem lessR_rising (c : Rc) {l : List Rc} (h : Rising l) : Rising (lessR l c) := List.Pairwise.filter _ h
theorem lessR_len (c : Rc) (l : List Rc) : (lessR l c).length ≤ l.length := List.length_filter_le _ _
def doR (s : List Rc) (c : Rc) (live : Bool) : List Rc := if live = true then insR s c else lessR s c
theorem doR_rising (c : Rc) (live : Bool) {s : List Rc} (h : Rising s) : Rising (doR s c live) := by
  unfold doR; split
  · exact insR_rising c s h
  · exact lessR_rising c h
theorem doR_len (c : Rc) (live : Bool) (s : List Rc) : (doR s c live).length ≤ s.length + 1 := by
  unfold doR; split
  · exact insR_len c s
  · have := lessR_len c s; omega
theorem mem_doR (c y : Rc) (live : Bool) (s : List Rc) : y ∈ doR s c live ↔ (if y = c then live = true else y ∈ s) := by
  unfold doR
  cases live
  · rw [if_neg (by decide), mem_lessR]
    by_cases h : y = c
    · rw [if_pos h]; simp [h]
    · rw [if_neg h]; simp [h]
  · rw [if_pos rfl, mem_insR]
    by_cases h : y = c
    · rw [if_pos h]; simp [h]
    · rw [if_neg h]; simp [h]
/-- a square of a root's level that has just the cells of a set -/
structure IsSet (q : Q) (n : Nat) (s : List Rc) : Prop where
  lv : q.lv = (n : Int)
  lo : 3 ≤ n
  hi : n ≤ 44
  ok : q.ok
  up : Rising s
  get : ∀ c : Rc, getQ q c.f0 c.f1 c.f2 = decide (c ∈ s)
theorem mem_own (s : List Rc) (c : Cl) : c ∈ s.map ownC ↔ (⟨c.f0.f0, c.f0.f1, c.f1⟩ : Rc) ∈ s := by
  rw [List.mem_map]
  constructor
  · rintro ⟨x, hx, rfl⟩; exact hx
  · intro h; exact ⟨_, h, rfl⟩
theorem IsSet.ex {q : Q} {n : Nat} {s : List Rc} (h : IsSet q n s) : q.ex = n := by have h1 := q.lv_ex; have h2 := h.lv; omega
theorem IsSet.hx {q : Q} {n : Nat} {s : List Rc} (h : IsSet q n s) : hx q.lv = n - 1 := by rw [h.lv]; exact hx_nat n (by have := h.lo; omega) h.hi
theorem IsSet.pow {q : Q} {n : Nat} {s : List Rc} (h : IsSet q n s) : (2 : Int) ^ n = 2 * pw (n - 1) := by
  obtain ⟨m, rfl⟩ : ∃ m, n = m + 1 := ⟨n - 1, by have := h.lo; omega⟩
  exact pw_succ m
theorem IsSet.in_ {q : Q} {n : Nat} {s : List Rc} (h : IsSet q n s) {c : Rc} (hc : c ∈ s) : Ins (pw (n - 1)) c.f0 c.f1 ∧ 0 ≤ c.f2 ∧ c.f2 < 2 := by
  have h1 := h.get c
  rw [decide_eq_true hc] at h1
  unfold getQ at h1
  rw [h.hx] at h1
  split at h1
  · rename_i h2; exact ⟨h2.2.1, h2.2.2.1, by have := h2.2.2.2; omega⟩
  · cases h1
theorem pw_top {n : Nat} (h : n ≤ 44) : pw (n - 1) ≤ 8796093022208 := by
  have := pw_le (show n - 1 ≤ 43 by omega)
  have e : pw 43 = 8796093022208 := by decide
  omega
theorem IsSet.bd {q : Q} {n : Nat} {s : List Rc} (h : IsSet q n s) : ∀ x ∈ s, (-8796093022208 ≤ x.f0 ∧ x.f0 < 8796093022208) ∧ (-8796093022208 ≤ x.f1 ∧ x.f1 < 8796093022208) ∧ 0 ≤ x.f2 ∧ x.f2 < 2 := by
  intro x hx
  obtain ⟨h1, h2⟩ := h.in_ hx
  have := pw_top h.hi
  unfold Ins at h1
  omega
theorem IsSet.near {q : Q} {n : Nat} {s : List Rc} (h : IsSet q n s) : (∀ c ∈ s.map ownC, ClOk c) ∧ rootIn (s.map ownC) := near_ok h.bd
theorem IsSet.cells {q : Q} {n : Nat} {s : List Rc} (h : IsSet q n s) : sortCl (rootCells q) = s.map ownC := by
  have hmem : ∀ c, c ∈ rootCells q ↔ c ∈ s.map ownC := fun c => by
    rw [rootCells_mem _ h.ok (by rw [h.lv]; have := h.lo; omega) (by rw [h.lv]; have := h.hi; omega), mem_own]
    have := h.get ⟨c.f0.f0, c.f0.f1, c.f1⟩
    rw [this, decide_eq_true_iff]
  exact up_one _ _ (sortCl_strict (qcells_nodup _ h.ok _ _)) (UpC.of h.up) (fun c => ((sortCl_perm _).mem_iff).trans (hmem c))
theorem IsSet.count {q : Q} {n : Nat} {s : List Rc} (h : IsSet q n s) (hl : s.length ≤ 1000000) : q.cnt = s.length ∧ (rootCells q).length = s.length := by
  have h2 : (rootCells q).length = s.length := by rw [← sortCl_len, h.cells, List.length_map]
  have h3 := qcells_cnt q (-pw (Go.Proofs.Ytbkbkgfpnefilaa.tr.hx q.lv)) (-pw (Go.Proofs.Ytbkbkgfpnefilaa.tr.hx q.lv))
  refine ⟨?_, h2⟩
  rw [h3]
  unfold rootCells at h2
  rw [h2]
  unfold cap62
  omega
theorem root_set {s : List Rc} (hu : Rising s) (hb : ∀ x ∈ s, (-8796093022208 ≤ x.f0 ∧ x.f0 < 8796093022208) ∧ (-8796093022208 ≤ x.f1 ∧ x.f1 < 8796093022208) ∧ 0 ≤ x.f2 ∧ x.f2 < 2) : IsSet (rootQ (s.map ownC)) (rlv (s.map ownC)) s := by
  have h1 := rlv_bd (s.map ownC)
  have h2 := near_ok hb
  exact ⟨rootQ_lv _, h1.1, h1.2, sqQ_ok _ _ _ _, hu, fun c => by
    rw [getQ_root _ h2.1 h2.2, decide_eq_decide, mem_own]⟩
/-- the square of a set is one at each level -/
theorem IsSet.one {q q' : Q} {n : Nat} {s : List Rc} (h : IsSet q n s) (h' : IsSet q' n s) : q = q' := by
  refine Q.ext_has h.ok h'.ok (by rw [h.ex, h'.ex]) (fun x y t hi => ?_)
  have hp := h.pow
  obtain ⟨x0, x1, y0, y1, t0, t1⟩ := hi
  rw [h.ex, hp] at x1 y1
  have g := h.get ⟨x - pw (n - 1), y - pw (n - 1), t⟩
  have g' := h'.get ⟨x - pw (n - 1), y - pw (n - 1), t⟩
  rw [← g'] at g
  unfold getQ at g
  dsimp only at g
  have hc : (3 : Int) ≤ (n : Int) ∧ Ins (pw (n - 1)) (x - pw (n - 1)) (y - pw (n - 1)) ∧ 0 ≤ t ∧ t ≤ 1 := by
    have := h.lo
    unfold Ins
    omega
  rw [h.hx, h'.hx, h.lv, h'.lv, if_pos hc, if_pos hc, Int.sub_add_cancel, Int.sub_add_cancel] at g
  exact g
/-- a cell put in, or out -/
theorem IsSet.put {q : Q} {n : Nat} {s : List Rc} (h : IsSet q n s) (c : Rc) (live : Bool) (hc : Ins (pw (n - 1)) c.f0 c.f1) (hh : 0 ≤ c.f2 ∧ c.f2 < 2) : IsSet (putQ q (-pw (n - 1)) (-pw (n - 1)) (ownC c) live) n (doR s c live) := by
  have hlo := h.lo
  have hp := h.pow
  have hpt := pw_top h.hi
  have hm : pw (n - 1) % 4 = 0 := pow_mod4 (n - 1) (by omega)
  have hlv := putQ_lv q h.ok (-pw (n - 1)) (-pw (n - 1)) (ownC c) live
  refine ⟨by rw [hlv]; exact h.lv, h.lo, h.hi, putQ_ok q h.ok _ _ _ _, doR_rising c live h.up, fun y => ?_⟩
  unfold getQ
  rw [hlv, h.hx, h.lv]
  have hg := h.get y
  unfold getQ at hg
  rw [h.hx, h.lv] at hg
  unfold Ins at hc
  by_cases hy : (3 : Int) ≤ (n : Int) ∧ Ins (pw (n - 1)) y.f0 y.f1 ∧ 0 ≤ y.f2 ∧ y.f2 ≤ 1
  · rw [if_pos hy] at hg ⊢
    obtain ⟨_, ⟨y1, y2, y3, y4⟩, y5, y6⟩ := hy
    have hx0 : (ownC c).f0.f0 = c.f0 := rfl
    have hx1 : (ownC c).f0.f1 = c.f1 := rfl
    have hx2 : (ownC c).f1 = c.f2 := rfl
    rw [putQ_has q h.ok _ _ (ownC c) live ⟨by rw [hx0]; omega, by rw [hx1]; omega, hh⟩ (by omega) (by omega) ⟨by rw [hx0]; omega, by rw [h.ex, hx0, hp]; omega, by rw [hx1]; omega, by rw [h.ex, hx1, hp]; omega, hh.1, hh.2⟩ _ _ _ ⟨by omega, by rw [h.ex, hp]; omega, by omega, by rw [h.ex, hp]; omega, y5, by omega⟩]
    rw [hx0, hx1, hx2, hg]
    by_cases e : y = c
    · subst e
      rw [if_pos ⟨by omega, by omega, rfl⟩]
      cases live
      · symm; rw [decide_eq_false_iff_not, mem_doR, if_pos rfl]; decide
      · symm; rw [decide_eq_true_iff, mem_doR, if_pos rfl]
    · rw [if_neg (fun hh => e (by
        obtain ⟨a, b, t⟩ := y
        obtain ⟨a', b', t'⟩ := c
        dsimp only at hh
        obtain ⟨e1, e2, e3⟩ := hh
        rw [show a = a' by omega, show b = b' by omega, e3]))]
      rw [decide_eq_decide, mem_doR, if_neg e]
  · rw [if_neg hy] at hg ⊢
    symm at hg ⊢
    rw [decide_eq_false_iff_not] at hg ⊢
    rw [mem_doR]
    by_cases e : y = c
    · subst e
      exact absurd ⟨by omega, by unfold Ins; omega, by omega, by omega⟩ hy
    · rw [if_neg e]; exact hg
end Go.Proofs.Ytbkbkgfpnefilaa.tr
namespace Go.Proofs.Ytbkbkgfpnefilaa.tr
open Go.RowKit Go.Proofs.Ytbkbkgfpnefilaa.PTreeBuilds Go.Proofs.YtbkbkgfpnefilaaW.PrintWords Go.Proofs.Ytbkbkgfpnefilaa.lb Go.Proofs.Ytbkbkgfpnefilaa.ar Go.Proofs.Ytbkbkgfpnefilaa.bs

/-- the least and greatest coordinates of some cells -/
structure BoxP (P : Cl → Prop) (E : Bx) : Prop where
  le : ∀ c, P c → E.la ≤ c.f0.f0 ∧ c.f0.f0 ≤ E.ha ∧ E.lb ≤ c.f0.f1 ∧ c.f0.f1 ≤ E.hb
  a0 : ∃ c, P c ∧ c.f0.f0 = E.la
  b0 : ∃ c, P c ∧ c.f0.f1 = E.lb
  a1 : ∃ c, P c ∧ c.f0.f0 = E.ha
  b1 : ∃ c, P c ∧ c.f0.f1 = E.hb
theorem BoxP.one {P P' : Cl → Prop} {E E' : Bx} (h : BoxP P E) (h' : BoxP P' E') (he : ∀ c, P c ↔ P' c) : E = E' := by
  obtain ⟨c1, p1, e1⟩ := h.a0
  obtain ⟨c2, p2, e2⟩ := h.b0
  obtain ⟨c3, p3, e3⟩ := h.a1
  obtain ⟨c4, p4, e4⟩ := h.b1
  obtain ⟨d1, q1, g1⟩ := h'.a0
  obtain ⟨d2, q2, g2⟩ := h'.b0
  obtain ⟨d3, q3, g3⟩ := h'.a1
  obtain ⟨d4, q4, g4⟩ := h'.b1
  have := h'.le c1 ((he _).1 p1)
  have := h'.le c2 ((he _).1 p2)
  have := h'.le c3 ((he _).1 p3)
  have := h'.le c4 ((he _).1 p4)
  have := h.le d1 ((he _).2 q1)
  have := h.le d2 ((he _).2 q2)
  have := h.le d3 ((he _).2 q3)
  have := h.le d4 ((he _).2 q4)
  obtain ⟨a, b, c, d⟩ := E
  obtain ⟨a', b', c', d'⟩ := E'
  dsimp only at *
  rw [show a = a' by omega, show b = b' by omega, show c = c' by omega, show d = d' by omega]
theorem BoxP.congr {P P' : Cl → Prop} {E : Bx} (h : BoxP P E) (he : ∀ c, P c ↔ P' c) : BoxP P' E := by
  have e : P = P' := funext fun c => propext (he c)
  rw [← e]; exact h
theorem boxP_one (c : Cl) : BoxP (fun x => x = c) (Bx.one c) :=
  ⟨fun x hx => by subst hx; unfold Bx.one; dsimp only; omega, ⟨c, rfl, rfl⟩, ⟨c, rfl, rfl⟩, ⟨c, rfl, rfl⟩, ⟨c, rfl, rfl⟩⟩
theorem boxP_or {P P' : Cl → Prop} {E E' : Bx} (h : BoxP P E) (h' : BoxP P' E') : BoxP (fun c => P c ∨ P' c) ⟨min E.la E'.la, min E.lb E'.lb, max E.ha E'.ha, max E.hb E'.hb⟩ := by
  refine ⟨fun c hc => ?_, ?_, ?_, ?_, ?_⟩
  · rcases hc with hc | hc
    · have := h.le c hc; dsimp only; omega
    · have := h'.le c hc; dsimp only; omega
  · by_cases e : E.la ≤ E'.la
    · obtain ⟨c, p, g⟩ := h.a0; exact ⟨c, .inl p, by dsimp only; omega⟩
    · obtain ⟨c, p, g⟩ := h'.a0; exact ⟨c, .inr p, by dsimp only; omega⟩
  · by_cases e : E.lb ≤ E'.lb
    · obtain ⟨c, p, g⟩ := h.b0; exact ⟨c, .inl p, by dsimp only; omega⟩
    · obtain ⟨c, p, g⟩ := h'.b0; exact ⟨c, .inr p, by dsimp only; omega⟩
  · by_cases e : E'.ha ≤ E.ha
    · obtain ⟨c, p, g⟩ := h.a1; exact ⟨c, .inl p, by dsimp only; omega⟩
    · obtain ⟨c, p, g⟩ := h'.a1; exact ⟨c, .inr p, by dsimp only; omega⟩
  · by_cases e : E'.hb ≤ E.hb
    · obtain ⟨c, p, g⟩ := h.b1; exact ⟨c, .inl p, by dsimp only; omega⟩
    · obtain ⟨c, p, g⟩ := h'.b1; exact ⟨c, .inr p, by dsimp only; omega⟩
/-- the box of a list that is not empty -/
theorem boxP_list : ∀ (cs : List Cl) (P : Cl → Prop) (b : Bx), BoxP P b → BoxP (fun c => P c ∨ c ∈ cs) (boxL b cs)
  | [], P, b, h => h.congr (fun c => by simp)
  | x :: cs, P, b, h => by
    have := boxP_list cs _ (b.add x) (boxP_or h (boxP_one x))
    exact this.congr (fun c => by simp only [List.mem_cons]; exact or_assoc)
theorem boxP_cons (c0 : Cl) (cs : List Cl) : BoxP (fun c => c ∈ c0 :: cs) (boxL (Bx.one c0) (c0 :: cs)) :=
  (boxP_list (c0 :: cs) _ _ (boxP_one c0)).congr (fun c => by
    constructor
    · rintro (rfl | h)
      · exact List.mem_cons_self
      · exact h
    · exact .inr)
def Bx.mv (E : Bx) (x y : Int) : Bx := ⟨E.la + x, E.lb + y, E.ha + x, E.hb + y⟩
/-- a square's cells, moved -/
theorem qcells_mv (q : Q) (hok : q.ok) (la lb x y : Int) (c : Cl) : c ∈ qcells q (la + x) (lb + y) ↔ (⟨⟨c.f0.f0 - x, c.f0.f1 - y⟩, c.f1⟩ : Cl) ∈ qcells q la lb := by
  rw [qcells_mem q hok, qcells_mem q hok]
  dsimp only
  rw [show c.f0.f0 - (la + x) = c.f0.f0 - x - la by omega, show c.f0.f1 - (lb + y) = c.f0.f1 - y - lb by omega]
theorem boxP_mv (q : Q) (hok : q.ok) {la lb : Int} {E : Bx} (h : BoxP (fun c => c ∈ qcells q la lb) E) (x y : Int) : BoxP (fun c => c ∈ qcells q (la + x) (lb + y)) (E.mv x y) := by
  have up : ∀ c : Cl, c ∈ qcells q la lb → (⟨⟨c.f0.f0 + x, c.f0.f1 + y⟩, c.f1⟩ : Cl) ∈ qcells q (la + x) (lb + y) := fun c hc => by
    rw [qcells_mv q hok]
    dsimp only
    rw [Int.add_sub_cancel, Int.add_sub_cancel]
    exact hc
  refine ⟨fun c hc => ?_, ?_, ?_, ?_, ?_⟩
  · have := h.le _ ((qcells_mv q hok la lb x y c).1 hc)
    unfold Bx.mv
    dsimp only at *
    omega
  · obtain ⟨c, p, g⟩ := h.a0; exact ⟨_, up c p, by unfold Bx.mv; dsimp only; omega⟩
  · obtain ⟨c, p, g⟩ := h.b0; exact ⟨_, up c p, by unfold Bx.mv; dsimp only; omega⟩
  · obtain ⟨c, p, g⟩ := h.a1; exact ⟨_, up c p, by unfold Bx.mv; dsimp only; omega⟩
  · obtain ⟨c, p, g⟩ := h.b1; exact ⟨_, up c p, by unfold Bx.mv; dsimp only; omega⟩
/-- the edges of a square, from its least point on -/
def EdgeOf (q : Q) (E : Bx) : Prop := BoxP (fun c => c ∈ qcells q 0 0) E
theorem edge_bd {q : Q} (hok : q.ok) {E : Bx} (h : EdgeOf q E) : 0 ≤ E.la ∧ E.la ≤ E.ha ∧ E.ha < 2 ^ q.ex ∧ 0 ≤ E.lb ∧ E.lb ≤ E.hb ∧ E.hb < 2 ^ q.ex := by
  obtain ⟨c1, p1, e1⟩ := h.a0
  obtain ⟨c2, p2, e2⟩ := h.b0
  obtain ⟨c3, p3, e3⟩ := h.a1
  obtain ⟨c4, p4, e4⟩ := h.b1
  have h1 := h.le c1 p1
  have h2 := h.le c2 p2
  have i1 := ((qcells_mem q hok 0 0 c1).1 p1).1
  have i2 := ((qcells_mem q hok 0 0 c2).1 p2).1
  have i3 := ((qcells_mem q hok 0 0 c3).1 p3).1
  have i4 := ((qcells_mem q hok 0 0 c4).1 p4).1
  obtain ⟨x1, _, _, _, _, _⟩ := i1
  obtain ⟨_, _, x2, _, _, _⟩ := i2
  obtain ⟨_, x3, _, _, _, _⟩ := i3
  obtain ⟨_, _, _, x4, _, _⟩ := i4
  omega
/-- the cells of a kid, from the square's least point on -/
def kidCells (q : Q) (t : Nat) : List Cl := qcells (Q.kid q t) (lowA 0 (2 ^ (Q.kid q 0).ex) t) (lowB 0 (2 ^ (Q.kid q 0).ex) t)
/-- the edges over the kids that have been seen -/
def EdgeUpto (q : Q) (j : Nat) (E : Bx) : Prop :=
  ((∀ t, t < j → kidCells q t = []) ∧ E = ⟨2 ^ q.ex, 2 ^ q.ex, -1, -1⟩) ∨ BoxP (fun c => ∃ t, t < j ∧ c ∈ kidCells q t) E
theorem cnt_zero (q : Q) (la lb : Int) : q.cnt = 0 ↔ qcells q la lb = [] := by
  have := qcells_cnt q la lb
  unfold cap62 at this
  rw [← List.length_eq_zero_iff]
  omega
theorem EdgeUpto.skip {q : Q} {j : Nat} {E : Bx} (h : EdgeUpto q j E) (hz : kidCells q j = []) : EdgeUpto q (j + 1) E := by
  rcases h with ⟨h1, h2⟩ | h
  · refine .inl ⟨fun t ht => ?_, h2⟩
    by_cases e : t = j
    · rw [e]; exact hz
    · exact h1 t (by omega)
  · refine .inr (h.congr fun c => ⟨fun ⟨t, ht, hc⟩ => ⟨t, by omega, hc⟩, fun ⟨t, ht, hc⟩ => ?_⟩)
    by_cases e : t = j
    · rw [e, hz] at hc; simp at hc
    · exact ⟨t, by omega, hc⟩
theorem EdgeUpto.step {q : Q} {j : Nat} {E e : Bx} (h : EdgeUpto q j E) (hok : (Q.kid q j).ok) (hkx : (Q.kid q j).ex = (Q.kid q 0).ex) (hex : q.ex = (Q.kid q 0).ex + 1) (hj : j < 4) (he : EdgeOf (Q.kid q j) e) :
    EdgeUpto q (j + 1) ⟨min E.la (e.la + lowA 0 (2 ^ (Q.kid q 0).ex) j), min E.lb (e.lb + lowB 0 (2 ^ (Q.kid q 0).ex) j), max E.ha (e.ha + lowA 0 (2 ^ (Q.kid q 0).ex) j), max E.hb (e.hb + lowB 0 (2 ^ (Q.kid q 0).ex) j)⟩ := by
  have hm := boxP_mv (Q.kid q j) hok he (lowA 0 (2 ^ (Q.kid q 0).ex) j) (lowB 0 (2 ^ (Q.kid q 0).ex) j)
  rw [Int.zero_add, Int.zero_add] at hm
  have hbd := edge_bd hok he
  right
  rcases h with ⟨h1, h2⟩ | h
  · have hp : (2 : Int) ^ q.ex = 2 * 2 ^ (Q.kid q 0).ex := by rw [hex]; exact two_succ _
    have e2 : (⟨min E.la (e.la + lowA 0 (2 ^ (Q.kid q 0).ex) j), min E.lb (e.lb + lowB 0 (2 ^ (Q.kid q 0).ex) j), max E.ha (e.ha + lowA 0 (2 ^ (Q.kid q 0).ex) j), max E.hb (e.hb + lowB 0 (2 ^ (Q.kid q 0).ex) j)⟩ : Bx) = e.mv (lowA 0 (2 ^ (Q.kid q 0).ex) j) (lowB 0 (2 ^ (Q.kid q 0).ex) j) := by
      rw [h2]
      unfold Bx.mv
      dsimp only
      rw [hkx] at hbd
      rw [hp]
      generalize (2 : Int) ^ (Q.kid q 0).ex = H at *
      have h4 : j = 0 ∨ j = 1 ∨ j = 2 ∨ j = 3 := by omega
      rcases h4 with rfl | rfl | rfl | rfl <;> simp [lowA, lowB] <;> omega
    rw [e2]
    exact hm.congr fun c => ⟨fun hc => ⟨j, by omega, hc⟩, fun ⟨t, ht, hc⟩ => by
      by_cases e : t = j
      · rw [e] at hc; exact hc
      · rw [h1 t (by omega)] at hc; simp at hc⟩
  · exact (boxP_or h hm).congr fun c => ⟨fun hc => by
      rcases hc with ⟨t, ht, hc⟩ | hc
      · exact ⟨t, by omega, hc⟩
      · exact ⟨j, by omega, hc⟩, fun ⟨t, ht, hc⟩ => by
      by_cases e : t = j
      · rw [e] at hc; exact .inr hc
      · exact .inl ⟨t, by omega, hc⟩⟩
theorem kidCells_all (a b c d : Q) (x : Cl) : (∃ t, t < 4 ∧ x ∈ kidCells (.node a b c d) t) ↔ x ∈ qcells (.node a b c d) 0 0 := by
  have e : qcells (.node a b c d) 0 0 = kidCells (.node a b c d) 0 ++ kidCells (.node a b c d) 1 ++ kidCells (.node a b c d) 2 ++ kidCells (.node a b c d) 3 := by
    simp [kidCells, Q.kid, qcells, lowA, lowB]
  rw [e]
  simp only [List.mem_append]
  constructor
  · rintro ⟨t, ht, hx⟩
    have h4 : t = 0 ∨ t = 1 ∨ t = 2 ∨ t = 3 := by omega
    rcases h4 with rfl | rfl | rfl | rfl
    · exact .inl (.inl (.inl hx))
    · exact .inl (.inl (.inr hx))
    · exact .inl (.inr hx)
    · exact .inr hx
  · rintro (((h | h) | h) | h)
    · exact ⟨0, by omega, h⟩
    · exact ⟨1, by omega, h⟩
    · exact ⟨2, by omega, h⟩
    · exact ⟨3, by omega, h⟩
theorem EdgeUpto.done {a b c d : Q} {E : Bx} (h : EdgeUpto (.node a b c d) 4 E) (hne : (Q.node a b c d).cnt ≠ 0) : EdgeOf (.node a b c d) E := by
  rcases h with ⟨h1, _⟩ | h
  · exfalso
    apply hne
    rw [cnt_zero _ 0 0]
    apply List.eq_nil_iff_forall_not_mem.2
    intro x hx
    obtain ⟨t, ht, hx⟩ := (kidCells_all a b c d x).2 hx
    rw [h1 t ht] at hx
    simp at hx
  · exact h.congr (kidCells_all a b c d)
end Go.Proofs.Ytbkbkgfpnefilaa.tr
namespace Go.Proofs.Ytbkbkgfpnefilaa.tr
open Go.RowKit Go.Proofs.Ytbkbkgfpnefilaa.PTreeBuilds Go.Proofs.YtbkbkgfpnefilaaW.PrintWords Go.Proofs.YtbkbkgfpnefilaaW.PrintLast Go.Proofs.YtbkbkgfpnefilaaW.PrintMore Go.Proofs.Ytbkbkgfpnefilaa.bs Go.ChangeShapes Go.Proofs.Ytbkbkgfpnefilaa.lb Go.Proofs.Ytbkbkgfpnefilaa.ar Go.Maps

def edgV (E : Bx) : Value := .agg #[.int .i64 E.la, .int .i64 E.lb, .int .i64 E.ha, .int .i64 E.hb]
set_option maxRecDepth 100000 in
set_option maxHeartbeats 2000000 in
theorem leafEdges_walk (f : Nat) (hf : f < 4294967296) (hne : (Q.leaf f).cnt ≠ 0) (w : World) :
    Calls Try.prog 105 #[.int .u32 f] w fun e w' => ∃ E, e = .returned (edgV E) ∧ EdgeOf (.leaf f) E ∧ Below w.heap.size w w' := by
  have hne2 : cells f 0 0 ≠ [] := fun h => hne ((cnt_zero (.leaf f) 0 0).2 h)
  have hcw := fun (w : World) => site_Leaf_Cells.calls 200 f 0 0 _ w (cells_tells f 0 0 ⟨by omega, by omega⟩ (by omega) (by omega) 200 (by omega))
  have hed : ∀ E, BoxP (fun c => c ∈ cells f 0 0) E → EdgeOf (.leaf f) E := fun E h => h
  generalize cells f 0 0 = l at *
  obtain ⟨c0, cs, rfl⟩ : ∃ c0 cs, l = c0 :: cs := by
    cases l with
    | nil => exact absurd rfl hne2
    | cons c0 cs => exact ⟨c0, cs, rfl⟩
  have HE := Aside0.mk (hed _ (boxP_cons c0 cs))
  have HBX := Aside0.mk (fun A c w h => box_walk A c (c0 :: cs) w h)
  unfold boxV at HBX
  dsimp only at HBX
  have HCW := Aside0.mk hcw
  clear hcw hed hne hne2 hf
  generalize boxL (Bx.one c0) (c0 :: cs) = E at *
  have HKE := Aside0.mk (blk_new w (.cells #[.int .i64 0, .int .i64 0, .int .i64 0, .int .i64 0] 135))
  have HBE := Aside0.mk (below_alloc (Below.refl w.heap.size w) (.cells #[.int .i64 0, .int .i64 0, .int .i64 0, .int .i64 0] 135))
  go_enter Try.func105, Try.ntmps105
  go_upto_region 2 with (first
    | (go_at_call 69; refine (HCW.out _).mono ?_; rintro e w2 ⟨v, rfl, hv, hb2⟩; obtain ⟨A2, c2, rfl, _, hC2⟩ := Kd.R_reads hv; have HC2 := Aside0.mk hC2; have HB2 := Aside0.mk hb2; clear hv hC2 hb2)
    | (go_at_call 62; refine (HBX.out _ _ _ HC2.out).mono ?_; rintro e w3 ⟨rfl, hb3⟩; have HB3 := Aside0.mk hb3; clear hb3))
  have hb4 := below_alloc (Below.refl w3.heap.size w3) (.cells #[.int .i64 E.la, .int .i64 E.lb, .int .i64 E.ha, .int .i64 E.hb] 27)
  have HB13 := Aside0.mk (chain (chain HBE.out HB2.out HBE.out.size) HB3.out (chain HBE.out HB2.out HBE.out.size).size)
  have hkr := blk_below (blk_below (blk_below HKE.out HB2.out) HB3.out) hb4
  have hkx := blk_new w3 (.cells #[.int .i64 E.la, .int .i64 E.lb, .int .i64 E.ha, .int .i64 E.hb] 27)
  have hne : w.heap.size ≠ w3.heap.size := by have := blk_lt (blk_below (blk_below HKE.out HB2.out) HB3.out); omega
  have HB4 := Aside0.mk (chain HB13.out hb4 HB13.out.size)
  generalize w3.alloc (.cells #[.int .i64 E.la, .int .i64 E.lb, .int .i64 E.ha, .int .i64 E.hb] 27) = w4 at *
  obtain ⟨X, hX⟩ : ∃ X, w3.heap.size = X := ⟨_, rfl⟩
  obtain ⟨R0, hR0⟩ : ∃ R0, w.heap.size = R0 := ⟨_, rfl⟩
  have HR0 := Aside0.mk hR0
  simp only [hX] at hkx hne ⊢
  simp only [hR0] at hkr hne ⊢
  clear hX hR0 hb4 HKE HBE HB2 HB3 HC2 HCW HBX HB13
  have x0 := blk_cell hkx 0
  have x1 := blk_cell hkx 1
  have x2 := blk_cell hkx 2
  have x3 := blk_cell hkx 3
  have r0 := blk_cell hkr 0
  have r1 := blk_cell hkr 1
  have r2 := blk_cell hkr 2
  have r3 := blk_cell hkr 3
  have f0 := blk_frozen hkr 0
  have f1 := blk_frozen hkr 1
  have f2 := blk_frozen hkr 2
  have f3 := blk_frozen hkr 3
  simp only [List.getElem?_toArray, List.getElem?_cons_zero, List.getElem?_cons_succ] at x0 x1 x2 x3 r0 r1 r2 r3
  clear hkr hkx
  go_wp2_with (fail)
  refine bodyPost_ret (v := edgV E) (by unfold edgV; simp [results, Try.results105, go_sem, *]) rfl ?_
  refine ⟨E, rfl, HE.out, ?_⟩
  have h4 := HB4.out
  rw [HR0.out] at h4 ⊢
  exact ((((h4.setCell (Nat.le_refl _) _).setCell (Nat.le_refl _) _).setCell (Nat.le_refl _) _).setCell (Nat.le_refl _) _)
end Go.Proofs.Ytbkbkgfpnefilaa.tr
namespace Go.Proofs.Ytbkbkgfpnefilaa.tr
open Go.RowKit Go.Proofs.Ytbkbkgfpnefilaa.PTreeBuilds Go.Proofs.YtbkbkgfpnefilaaW.PrintWords Go.Proofs.YtbkbkgfpnefilaaW.PrintLast Go.Proofs.YtbkbkgfpnefilaaW.PrintMore Go.Proofs.Ytbkbkgfpnefilaa.bs Go.ChangeShapes Go.Proofs.Ytbkbkgfpnefilaa.lb Go.Proofs.Ytbkbkgfpnefilaa.ar Go.Maps

/-- how an element of the map is read: as it stands -/
def edR (v : Value) : Option (DataW Value × List MemPlace) := some (.held v, [])
theorem zeroEd (w : World) : (zeroValue 135).run Try.prog w = .ok (.agg #[.int .i64 0, .int .i64 0, .int .i64 0, .int .i64 0]) w := by kernel_rfl
/-- the map has the edges of some squares -/
structure MeasD (nodes : List Nd) (D : DataW Value) (K : List Nat) : Prop where
  map : IsMap D
  has : ∀ i, Maps.has D (sk i) = decide (i ∈ K)
  nodup : K.Nodup
  lt : ∀ i ∈ K, i < nodes.length
  at_ : ∀ i ∈ K, ∃ q E, Rep nodes q i ∧ EdgeOf q E ∧ ∀ z, D.atKey (sk i) z = .held (edgV E)
theorem measD_nil (nodes : List Nd) : MeasD nodes (.map []) [] := ⟨isMap_empty, fun i => by rw [show decide (i ∈ ([] : List Nat)) = false by simp]; rfl, List.nodup_nil, fun i h => by simp at h, fun i h => by simp at h⟩
theorem MeasD.put {nodes : List Nd} {D : DataW Value} {K : List Nat} (h : MeasD nodes D K) {i : Nat} (hi : i ∉ K) {q : Q} {E : Bx} (hR : Rep nodes q i) (hE : EdgeOf q E) : MeasD nodes (D.put (sk i) (.held (edgV E))) (i :: K) := by
  refine ⟨h.map.put _ _, fun a => ?_, List.nodup_cons.2 ⟨hi, h.nodup⟩, fun a ha => ?_, fun a ha => ?_⟩
  · by_cases e : a = i
    · subst e; rw [has_put_same h.map (sk_key a)]; simp
    · rw [has_put_other (fun e2 => e (sk_inj e2)), h.has]; simp [e]
  · rcases List.mem_cons.1 ha with rfl | ha
    · exact hR.lt
    · exact h.lt a ha
  · by_cases e : a = i
    · subst e
      exact ⟨q, E, hR, hE, fun z => atKey_put_same h.map (sk_key a) _ z⟩
    · have ha2 : a ∈ K := by
        rcases List.mem_cons.1 ha with e2 | ha
        · exact absurd e2 e
        · exact ha
      obtain ⟨q', E', h1, h2, h3⟩ := h.at_ a ha2
      refine ⟨q', E', h1, h2, fun z => ?_⟩
      rw [atKey_put_other (fun e2 => e (sk_inj e2))]
      exact h3 z
/-- what measure leaves -/
def MeasPost (M : Nat) (nodes : List Nd) (K0 : List Nat) (w : World) (q : Q) (e : Ending) (w' : World) : Prop :=
  ∃ E, e = .returned (edgV E) ∧ EdgeOf q E ∧ (∃ D K, MeasD nodes D K ∧ w'.ownsMap Try.prog 38 edR M K.length D ∧ ∀ x ∈ K, x ∈ K0 ∨ lvAt nodes x ≤ q.lv) ∧ Keeps (fun k => k = M) w w'
section
variable {w : World} {F : Nat → Prop} {p M : Nat} {nodes : List Nd} {empty : List Int} {most : Int}
theorem ownsE_below {w w1 : World} {M n : Nat} {D : DataW Value} (h : w.ownsMap Try.prog 38 edR M n D) (hb : Below w.heap.size w w1) : w1.ownsMap Try.prog 38 edR M n D := by
  obtain ⟨es, cl, hk, rest⟩ := h
  exact ⟨es, cl, (hb.block M (blk_lt hk)).trans hk, rest⟩
set_option maxRecDepth 100000 in
set_option maxHeartbeats 2000000 in
theorem meas_known {q : Q} {i : Nat} {D : DataW Value} {K : List Nat} (lv : Int) (hR : Rep nodes q i) (hi : i < 4294967296) (hD : MeasD nodes D K) (hO : w.ownsMap Try.prog 38 edR M K.length D) (hin : i ∈ K) :
    Calls Try.prog 75 #[.pointer (some ⟨p, 0, none⟩), .int .u32 i, .int .i64 lv, .map (some M)] w fun e w' => MeasPost M nodes K w q e w' := by
  obtain ⟨q', E, hR', hE, hat⟩ := hD.at_ i hin
  rw [hR'.one hR] at hE
  have hhas : Maps.has D (sk i) = true := by rw [hD.has]; simpa using hin
  have hb := below_alloc (Below.refl w.heap.size w) (.cells #[.int .i64 0, .int .i64 0, .int .i64 0, .int .i64 0] 135)
  have hO1 := ownsE_below hO hb
  obtain ⟨v, ps, hrun, hv⟩ := hO1.look_ok lawU Try.underlying137 (zeroEd _) rfl (keyU i hi)
  rw [hat, hhas] at *
  have hv2 : v = edgV E := by
    unfold edR at hv
    injection hv with hv
    injection hv with hv _
    injection hv
  subst hv2
  have HOUT := Aside0.mk (And.intro hD hO1)
  have HE := Aside0.mk hE
  have HB := Aside0.mk hb
  have hkz := blk_new w (.cells #[.int .i64 0, .int .i64 0, .int .i64 0, .int .i64 0] 135)
  clear hR hR' hat hin hD hO hO1 hE hb hv hhas
  unfold edgV at hrun
  go_enter Try.func75, Try.ntmps75
  go_upto_region 2 with (fail)
  have hb2 := below_alloc (Below.refl (w.alloc (.cells #[.int .i64 0, .int .i64 0, .int .i64 0, .int .i64 0] 135)).heap.size (w.alloc (.cells #[.int .i64 0, .int .i64 0, .int .i64 0, .int .i64 0] 135))) (.cells #[.int .i64 E.la, .int .i64 E.lb, .int .i64 E.ha, .int .i64 E.hb] 135)
  have hkx := blk_new (w.alloc (.cells #[.int .i64 0, .int .i64 0, .int .i64 0, .int .i64 0] 135)) (.cells #[.int .i64 E.la, .int .i64 E.lb, .int .i64 E.ha, .int .i64 E.hb] 135)
  have hkz2 := blk_below hkz hb2
  have HB2 := Aside0.mk (chain HB.out hb2 HB.out.size)
  have HO2 := Aside0.mk (ownsE_below HOUT.out.2 hb2)
  rw [World.size_alloc] at hkx
  generalize (w.alloc (.cells #[.int .i64 0, .int .i64 0, .int .i64 0, .int .i64 0] 135)).alloc (.cells #[.int .i64 E.la, .int .i64 E.lb, .int .i64 E.ha, .int .i64 E.hb] 135) = w2 at *
  obtain ⟨Z, hZ⟩ : ∃ Z, w.heap.size = Z := ⟨_, rfl⟩
  obtain ⟨X, hX⟩ : ∃ X, Z + 1 = X := ⟨_, rfl⟩
  have HZ := Aside0.mk hZ
  rw [hZ] at hkx hkz2
  rw [hX] at hkx
  have hne : Z ≠ X := by omega
  have HMZ := Aside0.mk (show M ≠ Z from fun e => by obtain ⟨es, cl, hk, _⟩ := HO2.out; rw [e, hkz2] at hk; cases hk)
  simp only [hZ, hX]
  clear hb2 hkz hrun hZ hX HB
  have x0 := blk_cell hkx 0
  have x1 := blk_cell hkx 1
  have x2 := blk_cell hkx 2
  have x3 := blk_cell hkx 3
  have z0 := blk_cell hkz2 0
  have z1 := blk_cell hkz2 1
  have z2 := blk_cell hkz2 2
  have z3 := blk_cell hkz2 3
  have f0 := blk_frozen hkz2 0
  have f1 := blk_frozen hkz2 1
  have f2 := blk_frozen hkz2 2
  have f3 := blk_frozen hkz2 3
  simp only [List.getElem?_toArray, List.getElem?_cons_zero, List.getElem?_cons_succ] at x0 x1 x2 x3 z0 z1 z2 z3
  clear hkx hkz2
  go_wp2_with (fail)
  refine bodyPost_ret (v := edgV E) (by unfold edgV; simp [results, Try.results75, go_sem, *]) rfl ?_
  refine ⟨E, rfl, HE.out, ⟨D, K, HOUT.out.1, ?_, fun x h => .inl h⟩, ?_⟩
  · obtain ⟨es, cl, hk, rest⟩ := HO2.out
    exact ⟨es, cl, by rw [Below.heap_setCell _ _ _ M HMZ.out, Below.heap_setCell _ _ _ M HMZ.out, Below.heap_setCell _ _ _ M HMZ.out, Below.heap_setCell _ _ _ M HMZ.out]; exact hk, rest⟩
  · have h4 := HB2.out
    rw [HZ.out] at h4
    have h5 := ((((h4.setCell (p := ⟨Z, 0, none⟩) (Nat.le_refl _) (.int .i64 E.la)).setCell (p := ⟨Z, 1, none⟩) (Nat.le_refl _) (.int .i64 E.lb)).setCell (p := ⟨Z, 2, none⟩) (Nat.le_refl _) (.int .i64 E.ha)).setCell (p := ⟨Z, 3, none⟩) (Nat.le_refl _) (.int .i64 E.hb))
    rw [← HZ.out] at h5 ⊢
    exact Keeps.of_below h5
/-- what is not known yet is told so, with zeros -/
theorem meas_look {i : Nat} {D : DataW Value} {K : List Nat} (hi : i < 4294967296) (hD : MeasD nodes D K) (hO : w.ownsMap Try.prog 38 edR M K.length D) (hin : i ∉ K) :
    (Instr.lookup 137 (.map (some M)) (.int .u32 i) true).run Try.prog w = .ok (.tuple #[.agg #[.int .i64 0, .int .i64 0, .int .i64 0, .int .i64 0], .bool false]) w := by
  obtain ⟨v, ps, hrun, hv⟩ := hO.look_ok lawU Try.underlying137 (zeroEd _) rfl (keyU i hi)
  have hhas : Maps.has D (sk i) = false := by rw [hD.has]; simpa using hin
  rw [atKey_of_not_has hhas] at hv
  have hv2 : v = .agg #[.int .i64 0, .int .i64 0, .int .i64 0, .int .i64 0] := by
    have h0 : (some (DataW.held v, ([] : List MemPlace)) : Option (DataW Value × List MemPlace)) = some (.held (.agg #[.int .i64 0, .int .i64 0, .int .i64 0, .int .i64 0]), ps) := hv
    exact DataW.held.inj (Prod.mk.inj (Option.some.inj h0)).1
  rw [hv2, hhas] at hrun
  exact hrun
set_option maxRecDepth 100000 in
set_option maxHeartbeats 2000000 in
theorem meas_leaf {f i : Nat} {D : DataW Value} {K : List Nat} (hR : Rep nodes (.leaf f) i) (hne : (Q.leaf f).cnt ≠ 0) (hA : Ar w F p nodes empty most) (hsz : nodes.length ≤ 536870912) (hD : MeasD nodes D K) (hO : w.ownsMap Try.prog 38 edR M K.length D) (hin : i ∉ K) :
    Calls Try.prog 75 #[.pointer (some ⟨p, 0, none⟩), .int .u32 i, .int .i64 2, .map (some M)] w fun e w' => MeasPost M nodes K w (.leaf f) e w' := by
  have hil := hR.lt
  have hb := below_alloc (Below.refl w.heap.size w) (.cells #[.int .i64 0, .int .i64 0, .int .i64 0, .int .i64 0] 135)
  have hb2 := below_alloc (Below.refl (w.alloc (.cells #[.int .i64 0, .int .i64 0, .int .i64 0, .int .i64 0] 135)).heap.size (w.alloc (.cells #[.int .i64 0, .int .i64 0, .int .i64 0, .int .i64 0] 135))) (.cells #[.int .i64 0, .int .i64 0, .int .i64 0, .int .i64 0] 135)
  have hrun := meas_look (by omega) hD (ownsE_below hO hb) hin
  have hkz := blk_below (blk_new w (.cells #[.int .i64 0, .int .i64 0, .int .i64 0, .int .i64 0] 135)) hb2
  have hb12 := chain hb hb2 hb.size
  have hbits := bits_walk F p nodes empty most _ (hA.below hb12) i (by omega) (by omega)
  rw [bitsAt_some (x := ⟨leafKey f, (popN 32 f : Nat)⟩) (by rw [Int.toNat_natCast]; exact hR.1), show (leafKey (f : Int)).bits = (f : Int) from rfl] at hbits
  have HLE := Aside0.mk (fun w => leafEdges_walk f hR.2 hne w)
  have HBITS := Aside0.mk hbits
  have HB := Aside0.mk hb12
  have HKZ := Aside0.mk hkz
  have HD := Aside0.mk hD
  have HO := Aside0.mk (ownsE_below hO hb12)
  clear hR hne hA hD hO hin hb hb2 hkz hb12 hbits
  go_enter Try.func75, Try.ntmps75
  go_upto_region 5 with (fail)
  generalize (w.alloc (.cells #[.int .i64 0, .int .i64 0, .int .i64 0, .int .i64 0] 135)).alloc (.cells #[.int .i64 0, .int .i64 0, .int .i64 0, .int .i64 0] 135) = w2 at *
  obtain ⟨Z, hZ⟩ : ∃ Z, w.heap.size = Z := ⟨_, rfl⟩
  have HZ := Aside0.mk hZ
  rw [hZ] at HKZ
  simp only [hZ]
  clear hZ hrun
  have HF0 := Aside0.mk (blk_frozen HKZ.out)
  go_wp2_with (first | (go_at_call 78; refine HBITS.out.mono ?_; rintro e w3 ⟨rfl, rfl⟩) | (go_at_call 105; refine (HLE.out _).mono ?_; rintro e w4 ⟨E, rfl, hE, hb4⟩; have HE := Aside0.mk hE; have HB4 := Aside0.mk (chain HB.out hb4 HB.out.size); have HKZ4 := Aside0.mk (blk_below HKZ.out hb4); have HO4 := Aside0.mk (ownsE_below HO.out hb4); unfold edgV; have z0 := blk_cell HKZ4.out 0; have z1 := blk_cell HKZ4.out 1; have z2 := blk_cell HKZ4.out 2; have z3 := blk_cell HKZ4.out 3; have f0 := blk_frozen HKZ4.out 0; have f1 := blk_frozen HKZ4.out 1; have f2 := blk_frozen HKZ4.out 2; have f3 := blk_frozen HKZ4.out 3; simp only [List.getElem?_toArray, List.getElem?_cons_zero, List.getElem?_cons_succ] at z0 z1 z2 z3; clear hE hb4))
  have HMZ := Aside0.mk (show M ≠ Z from fun e => by obtain ⟨es, cl, hk, _⟩ := HO4.out; rw [e, HKZ4.out] at hk; cases hk)
  refine bodyPost_ret (v := edgV E) (by unfold edgV; simp [results, Try.results75, go_sem, *]) rfl ?_
  refine ⟨E, rfl, HE.out, ⟨D, K, HD.out, ?_, fun x h => .inl h⟩, ?_⟩
  · obtain ⟨es, cl, hk, rest⟩ := HO4.out
    exact ⟨es, cl, by rw [Below.heap_setCell _ _ _ M HMZ.out, Below.heap_setCell _ _ _ M HMZ.out, Below.heap_setCell _ _ _ M HMZ.out, Below.heap_setCell _ _ _ M HMZ.out]; exact hk, rest⟩
  · have h4 := HB4.out
    rw [HZ.out] at h4
    have h5 := ((((h4.setCell (p := ⟨Z, 0, none⟩) (Nat.le_refl _) (.int .i64 E.la)).setCell (p := ⟨Z, 1, none⟩) (Nat.le_refl _) (.int .i64 E.lb)).setCell (p := ⟨Z, 2, none⟩) (Nat.le_refl _) (.int .i64 E.ha)).setCell (p := ⟨Z, 3, none⟩) (Nat.le_refl _) (.int .i64 E.hb))
    rw [← HZ.out] at h5 ⊢
    exact Keeps.of_below h5
end
end Go.Proofs.Ytbkbkgfpnefilaa.tr
namespace Go.Proofs.Ytbkbkgfpnefilaa.tr
open Go.RowKit Go.Proofs.Ytbkbkgfpnefilaa.PTreeBuilds Go.Proofs.YtbkbkgfpnefilaaW.PrintWords Go.Proofs.YtbkbkgfpnefilaaW.PrintLast Go.Proofs.YtbkbkgfpnefilaaW.PrintMore Go.Proofs.Ytbkbkgfpnefilaa.bs Go.ChangeShapes Go.Proofs.Ytbkbkgfpnefilaa.lb Go.Proofs.Ytbkbkgfpnefilaa.ar Go.Maps

attribute [local go_sem] max_two min_two
def MeasOk (p M : Nat) (F : Nat → Prop) (nodes : List Nd) (empty : List Int) (most : Int) (q : Q) : Prop :=
  ∀ (i : Nat) (D : DataW Value) (K : List Nat) (w : World), Rep nodes q i → q.cnt ≠ 0 → Ar w F p nodes empty most → q.ex ≤ 44 → MeasD nodes D K → w.ownsMap Try.prog 38 edR M K.length D →
    Calls Try.prog 75 #[.pointer (some ⟨p, 0, none⟩), .int .u32 i, .int .i64 q.lv, .map (some M)] w fun e w' => MeasPost M nodes K w q e w'
section
variable {w : World} {F : Nat → Prop} {p M : Nat} {nodes : List Nd} {empty : List Int} {most : Int}
theorem of_meas {q : Q} {K0 : List Nat} {e : Ending} {w' : World} (h : MeasPost M nodes K0 w q e w') : ∃ E, e = .returned (edgV E) ∧ EdgeOf q E ∧ (∃ D K, MeasD nodes D K ∧ w'.ownsMap Try.prog 38 edR M K.length D ∧ ∀ x ∈ K, x ∈ K0 ∨ lvAt nodes x ≤ q.lv) ∧ Keeps (fun k => k = M) w w' := h
theorem blk_put4 {b : Nat} {t : TypeId} {a0 a1 a2 a3 : Value} (h : w.heap[b]? = some (.cells #[a0, a1, a2, a3] t (0, 0))) (v0 v1 v2 v3 : Value) : ((((w.setCell ⟨b, 0, none⟩ v0).setCell ⟨b, 1, none⟩ v1).setCell ⟨b, 2, none⟩ v2).setCell ⟨b, 3, none⟩ v3).heap[b]? = some (.cells #[v0, v1, v2, v3] t (0, 0)) :=
  blk_put (blk_put (blk_put (blk_put h 0 v0 rfl) 1 v1 rfl) 2 v2 rfl) 3 v3 rfl
theorem blk_far4 {b g : Nat} {o : Obj} (h : w.heap[g]? = some o) (hne : g ≠ b) (v0 v1 v2 v3 : Value) : ((((w.setCell ⟨b, 0, none⟩ v0).setCell ⟨b, 1, none⟩ v1).setCell ⟨b, 2, none⟩ v2).setCell ⟨b, 3, none⟩ v3).heap[g]? = some o := by
  rw [Below.heap_setCell _ _ _ g hne, Below.heap_setCell _ _ _ g hne, Below.heap_setCell _ _ _ g hne, Below.heap_setCell _ _ _ g hne]; exact h
theorem keeps4 {w1 : World} {b : Nat} (h : Keeps (fun k => k = M) w w1) (hb : w.heap.size ≤ b) (v0 v1 v2 v3 : Value) : Keeps (fun k => k = M) w ((((w1.setCell ⟨b, 0, none⟩ v0).setCell ⟨b, 1, none⟩ v1).setCell ⟨b, 2, none⟩ v2).setCell ⟨b, 3, none⟩ v3) :=
  (((h.setCell (p := ⟨b, 0, none⟩) (.inr hb) v0).setCell (p := ⟨b, 1, none⟩) (.inr hb) v1).setCell (p := ⟨b, 2, none⟩) (.inr hb) v2).setCell (p := ⟨b, 3, none⟩) (.inr hb) v3
theorem owns4 {n b : Nat} {D : DataW Value} (h : w.ownsMap Try.prog 38 edR M n D) (hne : M ≠ b) (v0 v1 v2 v3 : Value) : ((((w.setCell ⟨b, 0, none⟩ v0).setCell ⟨b, 1, none⟩ v1).setCell ⟨b, 2, none⟩ v2).setCell ⟨b, 3, none⟩ v3).ownsMap Try.prog 38 edR M n D := by
  obtain ⟨es, cl, hk, rest⟩ := h
  exact ⟨es, cl, blk_far4 hk hne v0 v1 v2 v3, rest⟩
set_option maxRecDepth 100000 in
set_option maxHeartbeats 4000000 in
theorem meas_node (hMF : ¬ F M) (hsz : nodes.length ≤ 536870912) (a b c d : Q) (ih : ∀ j, j < 4 → MeasOk p M F nodes empty most (Q.kid (.node a b c d) j)) (i : Nat) (D : DataW Value) (K : List Nat) (hR : Rep nodes (.node a b c d) i) (hne : (Q.node a b c d).cnt ≠ 0) (hA : Ar w F p nodes empty most) (hex : (Q.node a b c d).ex ≤ 44) (hD : MeasD nodes D K) (hO : w.ownsMap Try.prog 38 edR M K.length D) (hin : i ∉ K) :
    Calls Try.prog 75 #[.pointer (some ⟨p, 0, none⟩), .int .u32 i, .int .i64 (Q.node a b c d).lv, .map (some M)] w fun e w' => MeasPost M nodes K w (.node a b c d) e w' := by
  have hil := hR.lt
  have hb := below_alloc (Below.refl w.heap.size w) (.cells #[.int .i64 0, .int .i64 0, .int .i64 0, .int .i64 0] 135)
  have hb2 := below_alloc (Below.refl (w.alloc (.cells #[.int .i64 0, .int .i64 0, .int .i64 0, .int .i64 0] 135)).heap.size (w.alloc (.cells #[.int .i64 0, .int .i64 0, .int .i64 0, .int .i64 0] 135))) (.cells #[.int .i64 0, .int .i64 0, .int .i64 0, .int .i64 0] 135)
  have hrun := meas_look (by omega) hD (ownsE_below hO hb) hin
  have hkz := blk_below (blk_new w (.cells #[.int .i64 0, .int .i64 0, .int .i64 0, .int .i64 0] 135)) hb2
  have hb12 := chain hb hb2 hb.size
  obtain ⟨k0, k1, k2, k3, hkey, hkid⟩ := rep_kid hR
  have hkd := fun (W : World) (hbW : Below w.heap.size w W) => kids_walk F p nodes empty most W (hA.below hbW) i (by omega) (by omega)
  rw [hkey] at hkd
  unfold kidsVal at hkd
  dsimp only at hkd
  have hidx := fun (w : World) (j : Nat) (hj : j < 4) => index4v w k0 k1 k2 k3 j hj
  have ha2 := a.lv_ge
  have hal := a.lv_ex
  have hlv : (Q.node a b c d).lv = (a.ex : Int) + 1 := by show a.lv + 1 = _; rw [hal]
  have he1 : (Q.node a b c d).ex = a.ex + 1 := rfl
  rw [he1] at hex
  rw [hlv]
  have hne2 : (((a.ex : Int) + 1) == 2) = false := by rw [beq_eq_false_iff_ne]; omega
  have hpw := pw_bd (show a.ex ≤ 44 by omega)
  have hpp := pw_pos a.ex
  have hple := pw_le (show a.ex ≤ 43 by omega)
  have e43 : pw 43 = 8796093022208 := by decide
  obtain ⟨H, hH⟩ : ∃ H : Int, (2 : Int) ^ a.ex = H := ⟨_, rfl⟩
  have hpe : pw a.ex = H := hH
  rw [hpe] at hpw hpp hple
  have hsh : shl .i64 1 (a.ex : Int) = H := by rw [shl_one _ (by omega)]; exact hH
  have hwH : wrap64 H = H := w64 _ (by omega)
  have hw2H : wrap64 (2 * H) = 2 * H := w64 _ (by omega)
  have hex2 : (1 : Int) ≤ (a.ex : Int) := by omega
  have hex3 : (a.ex : Int) ≤ 43 := by omega
  have hwx : IntKind.i64.wrap ((a.ex : Int) + 1 - 1) = (a.ex : Int) := by rw [IntKind.wrap_i64]; omega
  have hstart : EdgeUpto (.node a b c d) 0 ⟨2 * H, 2 * H, -1, -1⟩ := .inl ⟨fun t ht => by omega, by rw [he1, two_succ, hH]⟩
  have HB := Aside0.mk hb12
  have HKZ := Aside0.mk hkz
  have HD := Aside0.mk hD
  have HO := Aside0.mk (ownsE_below hO hb12)
  have HA := Aside0.mk hA
  have HR := Aside0.mk hR
  have HKID := Aside0.mk hkid
  have HIH := Aside0.mk ih
  have HKD := Aside0.mk hkd
  have HIDX := Aside0.mk hidx
  have HST := Aside0.mk hstart
  have HH := Aside0.mk hH
  have HNE := Aside0.mk hne
  have HIN := Aside0.mk hin
  have HHB := Aside0.mk (And.intro hpp (show H ≤ 8796093022208 by omega))
  have HWX := Aside0.mk hwx
  clear hb hb2 hkz hb12 hD hO hA hR hkid ih hkd hidx hkey hstart hH hne hin hal hlv he1 ha2 hpw hpp hple e43 hpe
  go_enter Try.func75, Try.ntmps75
  go_upto_region 7 with (fail)
  generalize (w.alloc (.cells #[.int .i64 0, .int .i64 0, .int .i64 0, .int .i64 0] 135)).alloc (.cells #[.int .i64 0, .int .i64 0, .int .i64 0, .int .i64 0] 135) = w2 at *
  go_upto_region 8 with (fail)
  have hwp : wrap64 ((2 : Int) ^ a.ex) = H := by rw [HH.out]; exact hwH
  simp only [hwp, hw2H]
  have hb3 := below_alloc (Below.refl w2.heap.size w2) (.cells #[.int .i64 (2 * H), .int .i64 (2 * H), .int .i64 (-1), .int .i64 (-1)] 135)
  have hko := blk_new w2 (.cells #[.int .i64 (2 * H), .int .i64 (2 * H), .int .i64 (-1), .int .i64 (-1)] 135)
  have HKZ3 := Aside0.mk (blk_below HKZ.out hb3)
  have HO3 := Aside0.mk (ownsE_below HO.out hb3)
  have HB3 := Aside0.mk (chain HB.out hb3 HB.out.size)
  have hne3 : w.heap.size ≠ w2.heap.size := by have := blk_lt HKZ.out; omega
  have HWO := Aside0.mk HB.out.size
  generalize w2.alloc (.cells #[.int .i64 (2 * H), .int .i64 (2 * H), .int .i64 (-1), .int .i64 (-1)] 135) = w3 at *
  obtain ⟨Z, hZ⟩ : ∃ Z, w.heap.size = Z := ⟨_, rfl⟩
  obtain ⟨O, hOO⟩ : ∃ O, w2.heap.size = O := ⟨_, rfl⟩
  have HZ := Aside0.mk hZ
  rw [hZ] at HKZ3 hne3
  rw [hOO] at hko hne3
  have HZO := Aside0.mk (show Z ≤ O by have := HWO.out; omega)
  have HMZ := Aside0.mk (show M ≠ Z from fun e => by obtain ⟨es, cl, hk, _⟩ := HO3.out; rw [e, HKZ3.out] at hk; cases hk)
  have HMO := Aside0.mk (show M ≠ O from fun e => by obtain ⟨es, cl, hk, _⟩ := HO3.out; rw [e, hko] at hk; cases hk)
  have HKO := Aside0.mk hko
  simp only [hZ, hOO]
  clear hrun hb3 hko hZ hOO hwp hw2H hwH hsh hne2 HB HKZ HO HWO
  go_wp2_with (go_at_call 77; refine (HKD.out _ HB3.out).mono ?_; rintro e w4 ⟨rfl, hb4⟩; have HKZ4 := Aside0.mk (blk_below HKZ3.out hb4); have HO4 := Aside0.mk (ownsE_below HO3.out hb4); have HKO4 := Aside0.mk (blk_below HKO.out hb4); have HK4 := Aside0.mk (Keeps.of_below (F := fun k => k = M) (chain HB3.out hb4 HB3.out.size)); clear hb4)
  clear HKZ3 HO3 HB3 HKO HKD
  obtain ⟨K0, hK0⟩ : ∃ K0, K = K0 := ⟨_, rfl⟩
  have HK0 := Aside0.mk hK0
  clear hK0
  go_loopg [43] 4 (fun kq c43 w' => ∃ (j : Nat) (E : Bx) (D : DataW Value) (K : List Nat), j + kq = 4 ∧ c43 = .int .i64 j ∧ Aside0 (EdgeUpto (.node a b c d) j E) ∧ Aside0 (MeasD nodes D K) ∧ Aside0 (∀ x ∈ K, x ∈ K0 ∨ lvAt nodes x ≤ (a.ex : Int)) ∧ Aside0 (w'.ownsMap Try.prog 38 edR M K.length D) ∧ Aside0 (w'.heap[O]? = some (.cells #[.int .i64 E.la, .int .i64 E.lb, .int .i64 E.ha, .int .i64 E.hb] 135 (0, 0))) ∧ Aside0 (w'.heap[Z]? = some (.cells #[.int .i64 0, .int .i64 0, .int .i64 0, .int .i64 0] 135 (0, 0))) ∧ Aside0 (Keeps (fun k => k = M) w w'))
  case atStart => exact ⟨0, ⟨2 * H, 2 * H, -1, -1⟩, D, K, by omega, rfl, HST, HD, ⟨fun x h => .inl (by rw [← HK0.out]; exact h)⟩, HO4, HKO4, HKZ4, HK4⟩
  case round =>
    clear HST HD HO4 HKO4 HKZ4 HK4
    obtain ⟨j, E, D', K', hj, rfl, HE, HD, HN, HO, HKO, HKZ, HKK⟩ := hrel
    by_cases h4 : j < 4
    · obtain ⟨gm, rfl⟩ : ∃ m, gk = m + 1 := ⟨gk - 1, by omega⟩
      have hkd := HKID.out j h4
      have hkx : (Q.kid (.node a b c d) j).ex = a.ex := by have h1 := (Q.kid (.node a b c d) j).lv_ex; have h2 := a.lv_ex; rw [hkd.2] at h1; omega
      have hkl : (Q.kid (.node a b c d) j).lv = (a.ex : Int) := by rw [hkd.2, a.lv_ex]
      have HAR := Aside0.mk (HA.out.keeps hMF HKK.out)
      have hcnt := ncount_walk F p nodes empty most wr HAR.out ([k0, k1, k2, k3].getD j 0) (by omega) (by have := hkd.1.lt; omega)
      rw [hkd.1.cnt] at hcnt
      have hix := fun (w : World) => HIDX.out w j h4
      by_cases hz : (Q.kid (.node a b c d) j).cnt = 0
      · have HE2 := Aside0.mk (HE.out.skip ((cnt_zero _ _ _).1 hz))
        rw [hz] at hcnt
        have HCNT := Aside0.mk hcnt
        clear hkd hkx hkl hcnt hz
        generalize [k0, k1, k2, k3].getD j 0 = kj at *
        go_wp2_with (go_at_call 37; refine HCNT.out.mono ?_; rintro e w5 ⟨rfl, rfl⟩)
        go_roundg gm
        case measure => omega
        case rel => exact ⟨j + 1, E, D', K', by omega, by go_num, HE2, HD, HN, HO, HKO, HKZ, HKK⟩
      · have hrec := HIH.out j h4 ([k0, k1, k2, k3].getD j 0) D' K' wr hkd.1 hz HAR.out (by rw [hkx]; omega) HD.out HO.out
        rw [hkl] at hrec
        have hzb : ((Q.kid (.node a b c d) j).cnt == 0) = false := by rw [beq_eq_false_iff_ne]; exact hz
        have HCNT := Aside0.mk hcnt
        have HREC := Aside0.mk hrec
        have HKX := Aside0.mk (And.intro hkd.1.ok hkx)
        have HKLV := Aside0.mk hkl
        clear hkd hkx hkl hcnt hz hrec
        generalize [k0, k1, k2, k3].getD j 0 = kj at *
        generalize (Q.kid (.node a b c d) j).cnt = cn at *
        go_upto_region 13 with (first
          | (go_at_call 37; refine HCNT.out.mono ?_; rintro e w5 ⟨rfl, rfl⟩)
          | (go_at_call 75; with_reducible refine Calls.mono HREC.out ?_; intro e w6 hp; obtain ⟨e6, rfl, he6, ⟨D6, K6, hd6, ho6, hn6⟩, hk6⟩ := of_meas hp; have HN6 := Aside0.mk hn6; have HE6 := Aside0.mk he6; have HD6 := Aside0.mk hd6; have HO6 := Aside0.mk ho6; have HKK6 := Aside0.mk (HKK.out.trans hk6 (fun _ hk => .inl hk)); have HKO6 := Aside0.mk (hk6.blk HKO.out (fun e => absurd e.symm HMO.out)); have HKZ6 := Aside0.mk (hk6.blk HKZ.out (fun e => absurd e.symm HMZ.out)); unfold edgV; clear hp he6 hd6 ho6 hn6 hk6))
        have hb7 := below_alloc (Below.refl w6.heap.size w6) (.cells #[.int .i64 e6.la, .int .i64 e6.lb, .int .i64 e6.ha, .int .i64 e6.hb] 135)
        have hky := blk_new w6 (.cells #[.int .i64 e6.la, .int .i64 e6.lb, .int .i64 e6.ha, .int .i64 e6.hb] 135)
        have HKO7 := Aside0.mk (blk_below HKO6.out hb7)
        have HKZ7 := Aside0.mk (blk_below HKZ6.out hb7)
        have HO7 := Aside0.mk (ownsE_below HO6.out hb7)
        have HKK7 := Aside0.mk (HKK6.out.drop hb7)
        have hyo : w6.heap.size ≠ O := by have := blk_lt HKO6.out; omega
        generalize w6.alloc (.cells #[.int .i64 e6.la, .int .i64 e6.lb, .int .i64 e6.ha, .int .i64 e6.hb] 135) = w7 at *
        obtain ⟨Y, hY⟩ : ∃ Y, w6.heap.size = Y := ⟨_, rfl⟩
        rw [hY] at hky hyo
        simp only [hY]
        clear hY hb7 HO HKO HKZ HKK HO6 HKO6 HKZ6 HKK6 HCNT HREC hix HAR hzb
        go_upto_region 14 with (fail)
        have hebd := edge_bd HKX.out.1 HE6.out
        have hstep := HE.out.step HKX.out.1 HKX.out.2 rfl h4 HE6.out
        rw [HKX.out.2] at hebd
        rw [show (Q.kid (.node a b c d) 0).ex = a.ex from rfl] at hstep
        rw [HH.out] at hebd hstep
        have hHB := HHB.out
        have hxb : 0 ≤ lowA 0 H j ∧ lowA 0 H j ≤ H ∧ 0 ≤ lowB 0 H j ∧ lowB 0 H j ≤ H := by
          have h5 : j = 0 ∨ j = 1 ∨ j = 2 ∨ j = 3 := by omega
          rcases h5 with rfl | rfl | rfl | rfl <;> simp [lowA, lowB] <;> omega
        have hxx : wrap64 (H * Go.bits .and .i64 (j : Int) 1) = lowA 0 H j := by
          rw [bs.and1]
          have h5 : j = 0 ∨ j = 1 ∨ j = 2 ∨ j = 3 := by omega
          rcases h5 with rfl | rfl | rfl | rfl <;> simp [lowA] <;> exact w64 _ (by omega)
        have hyy : wrap64 (H * ((j : Int) / 2)) = lowB 0 H j := by
          have h5 : j = 0 ∨ j = 1 ∨ j = 2 ∨ j = 3 := by omega
          rcases h5 with rfl | rfl | rfl | rfl <;> simp [lowB] <;> exact w64 _ (by omega)
        rw [hxx, hyy]
        have hs1 : wrap64 (e6.la + lowA 0 H j) = e6.la + lowA 0 H j := w64 _ (by omega)
        have hs2 : wrap64 (e6.lb + lowB 0 H j) = e6.lb + lowB 0 H j := w64 _ (by omega)
        have hs3 : wrap64 (e6.ha + lowA 0 H j) = e6.ha + lowA 0 H j := w64 _ (by omega)
        have hs4 : wrap64 (e6.hb + lowB 0 H j) = e6.hb + lowB 0 H j := w64 _ (by omega)
        generalize lowA 0 H j = xx at *
        generalize lowB 0 H j = yy at *
        generalize hl1 : e6.la + xx = l1 at *
        generalize hl2 : e6.lb + yy = l2 at *
        generalize hl3 : e6.ha + xx = l3 at *
        generalize hl4 : e6.hb + yy = l4 at *
        rw [← hl1] at hs1
        rw [← hl2] at hs2
        rw [← hl3] at hs3
        rw [← hl4] at hs4
        have hr1 : wrap64 (e6.la + xx) = l1 := by rw [← hl1]; exact hs1
        have hr2 : wrap64 (e6.lb + yy) = l2 := by rw [← hl2]; exact hs2
        have hr3 : wrap64 (e6.ha + xx) = l3 := by rw [← hl3]; exact hs3
        have hr4 : wrap64 (e6.hb + yy) = l4 := by rw [← hl4]; exact hs4
        have HSTEP := Aside0.mk hstep
        clear hs1 hs2 hs3 hs4 hl1 hl2 hl3 hl4 hxx hyy hxb hHB hebd hstep
        have m1 := min_i E.la l1
        have m2 := min_i E.lb l2
        have m3 := max_i E.ha l3
        have m4 := max_i E.hb l4
        have y0 := blk_cell hky 0
        have y1 := blk_cell hky 1
        have y2 := blk_cell hky 2
        have y3 := blk_cell hky 3
        have o0 := blk_cell HKO7.out 0
        have o1 := blk_cell HKO7.out 1
        have o2 := blk_cell HKO7.out 2
        have o3 := blk_cell HKO7.out 3
        have f0 := blk_frozen HKO7.out 0
        have f1 := blk_frozen HKO7.out 1
        have f2 := blk_frozen HKO7.out 2
        have f3 := blk_frozen HKO7.out 3
        simp only [List.getElem?_toArray, List.getElem?_cons_zero, List.getElem?_cons_succ] at y0 y1 y2 y3 o0 o1 o2 o3
        go_wp2_with (fail)
        have HKO8 := Aside0.mk (blk_put4 HKO7.out (.int .i64 (min E.la l1)) (.int .i64 (min E.lb l2)) (.int .i64 (max E.ha l3)) (.int .i64 (max E.hb l4)))
        have HKZ8 := Aside0.mk (blk_far4 HKZ7.out (b := O) (fun e => hne3 e) (.int .i64 (min E.la l1)) (.int .i64 (min E.lb l2)) (.int .i64 (max E.ha l3)) (.int .i64 (max E.hb l4)))
        have HO8 := Aside0.mk (owns4 HO7.out HMO.out (.int .i64 (min E.la l1)) (.int .i64 (min E.lb l2)) (.int .i64 (max E.ha l3)) (.int .i64 (max E.hb l4)))
        have HKK8 := Aside0.mk (keeps4 HKK7.out (b := O) (by have h1 := HZ.out; have h2 := HZO.out; omega) (.int .i64 (min E.la l1)) (.int .i64 (min E.lb l2)) (.int .i64 (max E.ha l3)) (.int .i64 (max E.hb l4)))
        have HN8 : Aside0 (∀ x ∈ K6, x ∈ K0 ∨ lvAt nodes x ≤ (a.ex : Int)) := ⟨fun x hx => (HN6.out x hx).elim (HN.out x) (fun h => .inr (by have := HKLV.out; omega))⟩
        clear y0 y1 y2 y3 o0 o1 o2 o3 f0 f1 f2 f3 m1 m2 m3 m4 hr1 hr2 hr3 hr4
        go_roundg gm
        case measure => omega
        case rel => exact ⟨j + 1, ⟨min E.la l1, min E.lb l2, max E.ha l3, max E.hb l4⟩, D6, K6, by omega, by go_num, HSTEP, HD6, HN8, HO8, HKO8, HKZ8, HKK8⟩
    · obtain rfl : j = 4 := by omega
      have HED := Aside0.mk (HE.out.done HNE.out)
      have hi32 : i < 4294967296 := by omega
      have hlvi := HR.out.lv
      have hKl : K'.length ≤ nodes.length := nodup_le _ K' HD.out.nodup HD.out.lt
      have HINK : Aside0 (i ∉ K') := ⟨fun h => (HN.out i h).elim (fun h => by rw [← HK0.out] at h; exact HIN.out h) (fun h => by rw [hlvi, Q.lv_ex] at h; have h2 : (Q.node a b c d).ex = a.ex + 1 := rfl; omega)⟩
      have o0 := blk_cell HKO.out 0
      have o1 := blk_cell HKO.out 1
      have o2 := blk_cell HKO.out 2
      have o3 := blk_cell HKO.out 3
      simp only [List.getElem?_toArray, List.getElem?_cons_zero, List.getElem?_cons_succ] at o0 o1 o2 o3
      clear hlvi
      go_wp2_with (first | (at_mapUpdate; refine wpList_mapUpdate_own _ rfl _ _ _ 137 rfl 38 135 lawU Try.underlying137 edR M K'.length D' rfl HO.out (by unfold maxLen; omega) _ _ _ rfl rfl (keyU i hi32) _ [] rfl ?_; intro w9 ho9 hg9; have HO9 := Aside0.mk ho9; have HKO9 := Aside0.mk ((hg9.block O (blk_lt HKO.out) (fun e => absurd (Option.some.inj e).symm HMO.out)).trans HKO.out); have HKZ9 := Aside0.mk ((hg9.block Z (blk_lt HKZ.out) (fun e => absurd (Option.some.inj e).symm HMZ.out)).trans HKZ.out); have HKK9 := Aside0.mk (HKK.out.grown hg9 (fun k hk => .inl (Option.some.inj hk).symm)); have q0 := blk_cell HKO9.out 0; have q1 := blk_cell HKO9.out 1; have q2 := blk_cell HKO9.out 2; have q3 := blk_cell HKO9.out 3; have z0 := blk_cell HKZ9.out 0; have z1 := blk_cell HKZ9.out 1; have z2 := blk_cell HKZ9.out 2; have z3 := blk_cell HKZ9.out 3; have f0 := blk_frozen HKZ9.out 0; have f1 := blk_frozen HKZ9.out 1; have f2 := blk_frozen HKZ9.out 2; have f3 := blk_frozen HKZ9.out 3; simp only [List.getElem?_toArray, List.getElem?_cons_zero, List.getElem?_cons_succ] at q0 q1 q2 q3 z0 z1 z2 z3; clear ho9 hg9; go_frame))
      refine bodyPost_ret (v := edgV E) (by unfold edgV; simp [results, Try.results75, go_sem, *]) rfl ?_
      have hK : (fun k => k = M) Z → False := fun e => HMZ.out e.symm
      refine ⟨E, rfl, HED.out, ⟨_, i :: K', HD.out.put HINK.out HR.out HED.out, owns4 HO9.out HMZ.out _ _ _ _, fun x hx => ?_⟩, keeps4 HKK9.out (Nat.le_of_eq HZ.out) _ _ _ _⟩
      rcases List.mem_cons.1 hx with rfl | hx
      · exact .inr (by rw [HR.out.lv]; exact Int.le_refl _)
      · rcases HN.out x hx with h | h
        · exact .inl (by rw [HK0.out]; exact h)
        · exact .inr (by rw [Q.lv_ex]; have h2 : (Q.node a b c d).ex = a.ex + 1 := rfl; omega)
set_option maxRecDepth 100000 in
theorem measure_walk (hMF : ¬ F M) (hsz : nodes.length ≤ 536870912) : ∀ q : Q, MeasOk p M F nodes empty most q := by
  intro q
  induction q with
  | leaf f =>
    intro i D K w hR hne hA hex hD hO
    have hil := hR.lt
    by_cases hin : i ∈ K
    · exact meas_known _ hR (by omega) hD hO hin
    · exact meas_leaf hR hne hA hsz hD hO hin
  | node a b c d iha ihb ihc ihd =>
    intro i D K w hR hne hA hex hD hO
    have hil := hR.lt
    by_cases hin : i ∈ K
    · exact meas_known _ hR (by omega) hD hO hin
    · exact meas_node hMF hsz a b c d (fun j hj => by
        have h4 : j = 0 ∨ j = 1 ∨ j = 2 ∨ j = 3 := by omega
        rcases h4 with rfl | rfl | rfl | rfl
        · exact iha
        · exact ihb
        · exact ihc
        · exact ihd) i D K hR hne hA hex hD hO hin
end
end Go.Proofs.Ytbkbkgfpnefilaa.tr
namespace Go.Proofs.Ytbkbkgfpnefilaa.tr
open Go.RowKit Go.Proofs.Ytbkbkgfpnefilaa.PTreeBuilds Go.Proofs.YtbkbkgfpnefilaaW.PrintWords Go.Proofs.YtbkbkgfpnefilaaW.PrintLast Go.Proofs.YtbkbkgfpnefilaaW.PrintMore Go.Proofs.Ytbkbkgfpnefilaa.bs Go.ChangeShapes Go.Proofs.Ytbkbkgfpnefilaa.lb Go.Proofs.Ytbkbkgfpnefilaa.ar Go.Maps

section
variable {w : World} {F : Nat → Prop} {p : Nat} {nodes : List Nd} {empty : List Int} {most : Int}
/-- what Box tells of a square -/
def TBoxPost (q : Q) (w : World) (e : Ending) (w' : World) : Prop :=
  Below w.heap.size w w' ∧ ((q.cnt = 0 ∧ e = .returned (.tuple #[.agg #[.int .i64 0, .int .i64 0, .int .i64 0, .int .i64 0], .bool false])) ∨
    (q.cnt ≠ 0 ∧ ∃ E, BoxP (fun c => c ∈ rootCells q) E ∧ e = .returned (.tuple #[edgV E, .bool true])))
set_option maxRecDepth 100000 in
set_option maxHeartbeats 2000000 in
theorem tbox_none (hA : Ar w F p nodes empty most) (q : Q) (i : Nat) (hR : Rep nodes q i) (hsz : nodes.length ≤ 536870912) (hz : q.cnt = 0) (h3 : 3 ≤ q.lv) :
    Calls Try.prog 34 #[.pointer (some ⟨p, 0, none⟩), .int .u32 i] w fun e w' => TBoxPost q w e w' := by
  have hb := below_alloc (Below.refl w.heap.size w) (.cells #[.int .i64 0, .int .i64 0, .int .i64 0, .int .i64 0] 27)
  have hil := hR.lt
  have hlev := level_walk F p nodes empty most _ (hA.below hb) i (by omega) (by omega)
  rw [hR.lv] at hlev
  have hcnt := ncount_walk F p nodes empty most _ (hA.below hb) i (by omega) (by omega)
  rw [hR.cnt, hz] at hcnt
  have hkb := blk_new w (.cells #[.int .i64 0, .int .i64 0, .int .i64 0, .int .i64 0] 27)
  have c0 := blk_cell hkb 0
  have c1 := blk_cell hkb 1
  have c2 := blk_cell hkb 2
  have c3 := blk_cell hkb 3
  have f0 := blk_frozen hkb 0
  have f1 := blk_frozen hkb 1
  have f2 := blk_frozen hkb 2
  have f3 := blk_frozen hkb 3
  simp only [List.getElem?_toArray, List.getElem?_cons_zero, List.getElem?_cons_succ] at c0 c1 c2 c3
  have hn3 : ¬ q.lv < 3 := by omega
  have HZ := Aside0.mk hz
  generalize q.lv = lv at *
  have HLEV := Aside0.mk hlev
  have HCNT := Aside0.mk hcnt
  have HB := Aside0.mk hb
  clear hlev hcnt hA hb hkb hz hR
  go_enter Try.func34, Try.ntmps34
  go_wp2_with (first | (go_at_call 29; refine HLEV.out.mono ?_; rintro e w1 ⟨rfl, rfl⟩) | (go_at_call 37; refine HCNT.out.mono ?_; rintro e w1 ⟨rfl, rfl⟩))
  refine bodyPost_ret (v := .tuple #[.agg #[.int .i64 0, .int .i64 0, .int .i64 0, .int .i64 0], .bool false]) (by simp [results, Try.results34, go_sem, c0, c1, c2, c3]) rfl ?_
  exact ⟨by (repeat' (first | (with_reducible exact Below.refl _ _) | (with_reducible assumption) | (with_reducible refine Below.alloc ?_ ?_ _) | (with_reducible refine Below.drew ?_) | (with_reducible refine Below.setCell ?_ ?_ _) | (with_reducible refine chain ?_ (by assumption) ?_) | go_size)), .inl ⟨HZ.out, rfl⟩⟩
set_option maxRecDepth 100000 in
set_option maxHeartbeats 4000000 in
theorem tbox_some (hA : Ar w F p nodes empty most) (hF : ∀ k, F k → k < w.heap.size) (q : Q) (i : Nat) (hR : Rep nodes q i) (hsz : nodes.length ≤ 536870912) (hz : q.cnt ≠ 0) (h3 : 3 ≤ q.lv) (h44 : q.lv ≤ 44) :
    Calls Try.prog 34 #[.pointer (some ⟨p, 0, none⟩), .int .u32 i] w fun e w' => TBoxPost q w e w' := by
  have hb := below_alloc (Below.refl w.heap.size w) (.cells #[.int .i64 0, .int .i64 0, .int .i64 0, .int .i64 0] 27)
  have hb2 := below_alloc (Below.refl (w.alloc (.cells #[.int .i64 0, .int .i64 0, .int .i64 0, .int .i64 0] 27)).heap.size (w.alloc (.cells #[.int .i64 0, .int .i64 0, .int .i64 0, .int .i64 0] 27))) (.map #[] 0)
  have hb12 := chain hb hb2 hb.size
  have hil := hR.lt
  have hlev := level_walk F p nodes empty most _ (hA.below hb) i (by omega) (by omega)
  rw [hR.lv] at hlev
  have hcnt := ncount_walk F p nodes empty most _ (hA.below hb) i (by omega) (by omega)
  rw [hR.cnt] at hcnt
  have hzb : (q.cnt == 0) = false := by rw [beq_eq_false_iff_ne]; exact hz
  have hkb := blk_below (blk_new w (.cells #[.int .i64 0, .int .i64 0, .int .i64 0, .int .i64 0] 27)) hb2
  have hmm := @run_makeMap Try.prog
  have hMF : ¬ F (w.heap.size + 1) := fun hf => by have := hF _ hf; omega
  have hms := measure_walk (p := p) (most := most) (empty := empty) hMF hsz q i (.map []) [] _ hR hz (hA.below hb12) (by have := q.lv_ex; omega) (measD_nil nodes) (by have := World.ownsMap_made (H := Value) (w.alloc (.cells #[.int .i64 0, .int .i64 0, .int .i64 0, .int .i64 0] 27)) Try.prog 38 edR; rw [World.size_alloc] at this; exact this)
  have hor := fun w => torigin_walk q.lv w
  have hex := q.lv_ex
  have hhx : hx q.lv = q.ex - 1 := by rw [hex]; exact hx_nat q.ex (by omega) (by omega)
  have hp2 : (2 : Int) ^ q.ex = 2 * pw (q.ex - 1) := by
    obtain ⟨n, hn⟩ : ∃ n, q.ex = n + 1 := ⟨q.ex - 1, by omega⟩
    rw [hn]; exact pw_succ n
  have hpt := pw_top (show q.ex ≤ 44 by omega)
  have hfin : ∀ E, EdgeOf q E → (BoxP (fun c => c ∈ rootCells q) (E.mv (-pw (hx q.lv)) (-pw (hx q.lv))) ∧ (0 ≤ E.la ∧ E.la ≤ E.ha ∧ E.ha < 2 * pw (hx q.lv) ∧ 0 ≤ E.lb ∧ E.lb ≤ E.hb ∧ E.hb < 2 * pw (hx q.lv))) := fun E hE => by
    have h1 := boxP_mv q hR.ok hE (-pw (hx q.lv)) (-pw (hx q.lv))
    rw [Int.zero_add] at h1
    have h2 := edge_bd hR.ok hE
    rw [hp2] at h2
    rw [hhx] at h1 ⊢
    exact ⟨by unfold rootCells; rw [hhx]; exact h1, h2⟩
  have hpb : 0 ≤ pw (hx q.lv) ∧ pw (hx q.lv) ≤ 8796093022208 := by rw [hhx]; exact ⟨Int.le_trans (by decide) (pw_pos _), hpt⟩
  have hn3 : ¬ q.lv < 3 := by omega
  have HLEV := Aside0.mk hlev
  have HCNT := Aside0.mk hcnt
  have HMS := Aside0.mk hms
  have HOR := Aside0.mk hor
  have HFIN := Aside0.mk hfin
  have HPB := Aside0.mk hpb
  have HZZ := Aside0.mk hz
  have HB := Aside0.mk hb12
  have HKB := Aside0.mk hkb
  clear hlev hcnt hms hor hfin hpb hz hb hb2 hb12 hkb hA hF hR hMF hex hhx hp2 hpt h3 h44 hil
  generalize q.lv = lv at *
  obtain ⟨cn, hcn⟩ : ∃ cn, q.cnt = cn := ⟨_, rfl⟩
  rw [hcn] at HCNT hzb
  clear hcn
  generalize pw (hx lv) = P at *
  go_enter Try.func34, Try.ntmps34
  go_upto_region 5 with (first | (go_at_call 29; refine HLEV.out.mono ?_; rintro e w1 ⟨rfl, rfl⟩) | (go_at_call 37; refine HCNT.out.mono ?_; rintro e w1 ⟨rfl, rfl⟩) | (go_at_call 75; refine Calls.mono HMS.out ?_; intro e w4 hp; obtain ⟨E, rfl, hE, _, hk4⟩ := of_meas hp; have HE := Aside0.mk (HFIN.out E hE); have HK4 := Aside0.mk hk4; unfold edgV; clear hp hE hk4))
  have hb5 := below_alloc (Below.refl w4.heap.size w4) (.cells #[.int .i64 E.la, .int .i64 E.lb, .int .i64 E.ha, .int .i64 E.hb] 135)
  have hky := blk_new w4 (.cells #[.int .i64 E.la, .int .i64 E.lb, .int .i64 E.ha, .int .i64 E.hb] 135)
  have hkb4 := HK4.out.blk HKB.out (fun e => by omega)
  have hyr : w.heap.size ≠ w4.heap.size := by have := blk_lt hkb4; omega
  have HKB5 := Aside0.mk (blk_below hkb4 hb5)
  have HKY5 := Aside0.mk hky
  have HB4 := Aside0.mk ((HB.out.trans (HK4.out.below (fun k hk => by have : k = w.heap.size + 1 := hk; omega) HB.out.size)).trans (hb5.mono (Nat.le_trans HB.out.size HK4.out.size)))
  generalize w4.alloc (.cells #[.int .i64 E.la, .int .i64 E.lb, .int .i64 E.ha, .int .i64 E.hb] 135) = w5 at *
  obtain ⟨Y, hY⟩ : ∃ Y, w4.heap.size = Y := ⟨_, rfl⟩
  obtain ⟨R0, hR0⟩ : ∃ R0, w.heap.size = R0 := ⟨_, rfl⟩
  have HR0 := Aside0.mk hR0
  simp only [hR0] at HKB5 hyr ⊢
  simp only [hY] at HKY5 hyr ⊢
  clear hb5 hky hkb4 hR0 hY HB HKB HK4 hmm HLEV HCNT HMS
  go_upto_region 6 with (go_at_call 66; refine (HOR.out _).mono ?_; rintro e w6 ⟨rfl, hb6⟩; have HB6 := Aside0.mk (HB4.out.trans (hb6.mono HB4.out.size)); have HKB6 := Aside0.mk (blk_below HKB5.out hb6); have HKY6 := Aside0.mk (blk_below HKY5.out hb6); clear hb6)
  have hb7 := below_alloc (Below.refl w6.heap.size w6) (.cells #[.int .i64 (-P), .int .i64 (-P)] 23)
  have hkx := blk_new w6 (.cells #[.int .i64 (-P), .int .i64 (-P)] 23)
  have hkb7 := blk_below HKB6.out hb7
  have hky7 := blk_below HKY6.out hb7
  have hxr : R0 ≠ w6.heap.size := by have := blk_lt HKB6.out; omega
  have HB7 := Aside0.mk (HB6.out.trans (hb7.mono HB6.out.size))
  generalize w6.alloc (.cells #[.int .i64 (-P), .int .i64 (-P)] 23) = w7 at *
  obtain ⟨X, hX⟩ : ∃ X, w6.heap.size = X := ⟨_, rfl⟩
  simp only [hX] at hkx hxr ⊢
  clear hb7 hX HB4 HKB5 HKY5 HOR HB6 HKB6 HKY6
  have hE := HE.out.2
  have hPB := HPB.out
  have hs1 : wrap64 (-P + E.la) = -P + E.la := w64 _ (by omega)
  have hs2 : wrap64 (-P + E.lb) = -P + E.lb := w64 _ (by omega)
  have hs3 : wrap64 (-P + E.ha) = -P + E.ha := w64 _ (by omega)
  have hs4 : wrap64 (-P + E.hb) = -P + E.hb := w64 _ (by omega)
  obtain ⟨B, hB⟩ : ∃ B, E.mv (-P) (-P) = B := ⟨_, rfl⟩
  have HBB := Aside0.mk (show BoxP (fun c => c ∈ rootCells q) B by rw [← hB]; exact HE.out.1)
  have e1 : B.la = -P + E.la := by rw [← hB]; show E.la + -P = _; omega
  have e2 : B.lb = -P + E.lb := by rw [← hB]; show E.lb + -P = _; omega
  have e3 : B.ha = -P + E.ha := by rw [← hB]; show E.ha + -P = _; omega
  have e4 : B.hb = -P + E.hb := by rw [← hB]; show E.hb + -P = _; omega
  have hr1 : wrap64 (-P + E.la) = B.la := by rw [hs1, e1]
  have hr2 : wrap64 (-P + E.lb) = B.lb := by rw [hs2, e2]
  have hr3 : wrap64 (-P + E.ha) = B.ha := by rw [hs3, e3]
  have hr4 : wrap64 (-P + E.hb) = B.hb := by rw [hs4, e4]
  clear hs1 hs2 hs3 hs4 e1 e2 e3 e4 hB hE hPB HE HPB HFIN
  have y0 := blk_cell hky7 0
  have y1 := blk_cell hky7 1
  have y2 := blk_cell hky7 2
  have y3 := blk_cell hky7 3
  have x0 := blk_cell hkx 0
  have x1 := blk_cell hkx 1
  have c0 := blk_cell hkb7 0
  have c1 := blk_cell hkb7 1
  have c2 := blk_cell hkb7 2
  have c3 := blk_cell hkb7 3
  have f0 := blk_frozen hkb7 0
  have f1 := blk_frozen hkb7 1
  have f2 := blk_frozen hkb7 2
  have f3 := blk_frozen hkb7 3
  simp only [List.getElem?_toArray, List.getElem?_cons_zero, List.getElem?_cons_succ] at y0 y1 y2 y3 x0 x1 c0 c1 c2 c3
  clear hky7 hkx hkb7
  go_wp2_with (fail)
  refine bodyPost_ret (v := .tuple #[edgV B, .bool true]) (by unfold edgV; simp [results, Try.results34, go_sem, *]) rfl ?_
  refine ⟨?_, .inr ⟨HZZ.out, B, HBB.out, rfl⟩⟩
  have h7 := HB7.out
  rw [HR0.out] at h7 ⊢
  exact ((((h7.setCell (p := ⟨R0, 0, none⟩) (Nat.le_refl _) _).setCell (p := ⟨R0, 1, none⟩) (Nat.le_refl _) _).setCell (p := ⟨R0, 2, none⟩) (Nat.le_refl _) _).setCell (p := ⟨R0, 3, none⟩) (Nat.le_refl _) _)
theorem tbox_walk (hA : Ar w F p nodes empty most) (hF : ∀ k, F k → k < w.heap.size) (q : Q) (i : Nat) (hR : Rep nodes q i) (hsz : nodes.length ≤ 536870912) (h3 : 3 ≤ q.lv) (h44 : q.lv ≤ 44) :
    Calls Try.prog 34 #[.pointer (some ⟨p, 0, none⟩), .int .u32 i] w fun e w' => TBoxPost q w e w' := by
  by_cases hz : q.cnt = 0
  · exact tbox_none hA q i hR hsz hz h3
  · exact tbox_some hA hF q i hR hsz hz h3 h44
end
end Go.Proofs.Ytbkbkgfpnefilaa.tr
