/- An arena whose nodes stand for squares; what a call that makes a square's node leaves, in one form: Leaf, Join, Empty. -/
import Derived.Test.YtpmipllohiiocaaMAl
namespace Go.Proofs.Ytpmipllohiiocaa.ar
open Go.RowKit Go.Proofs.Ytpmipllohiiocaa.lb

/-- a square: a leaf's bits, or four of the level below -/
inductive Q where
  | leaf (f : Nat)
  | node (a b c d : Q)
def Q.lv : Q → Int
  | .leaf _ => 2
  | .node a _ _ _ => a.lv + 1
def Q.cnt : Q → Int
  | .leaf f => (popN 32 f : Nat)
  | .node a b c d => cap62 (cap62 (cap62 (cap62 (0 + a.cnt) + b.cnt) + c.cnt) + d.cnt)
/-- all kids of one level, all leaves of 32 bits -/
def Q.ok : Q → Prop
  | .leaf f => f < 4294967296
  | .node a b c d => a.ok ∧ b.ok ∧ c.ok ∧ d.ok ∧ b.lv = a.lv ∧ c.lv = a.lv ∧ d.lv = a.lv
theorem Q.lv_ge : ∀ q : Q, 2 ≤ q.lv
  | .leaf _ => Int.le_refl _
  | .node a _ _ _ => by have := a.lv_ge; show 2 ≤ a.lv + 1; omega
theorem cap62_bd (x : Int) (h : 0 ≤ x) : 0 ≤ cap62 x ∧ cap62 x ≤ 4611686018427387904 := by unfold cap62; omega
theorem Q.cnt_bd : ∀ q : Q, 0 ≤ q.cnt ∧ q.cnt ≤ 4611686018427387904
  | .leaf f => by have := popN_le 32 f; exact ⟨by show (0 : Int) ≤ (popN 32 f : Nat); omega, by show ((popN 32 f : Nat) : Int) ≤ _; omega⟩
  | .node a b c d => by
    have ha := a.cnt_bd; have hb := b.cnt_bd; have hc := c.cnt_bd; have hd := d.cnt_bd
    have h1 := cap62_bd (0 + a.cnt) (by omega)
    have h2 := cap62_bd (cap62 (0 + a.cnt) + b.cnt) (by omega)
    have h3 := cap62_bd (cap62 (cap62 (0 + a.cnt) + b.cnt) + c.cnt) (by omega)
    exact cap62_bd _ (by omega)
/-- the i-th node stands for a square -/
def Rep (nodes : List Nd) : Q → Nat → Prop
  | .leaf f, i => nodes[i]? = some ⟨leafKey f, (popN 32 f : Nat)⟩ ∧ f < 4294967296
  | .node a b c d, i => ∃ k0 k1 k2 k3 : Nat, nodes[i]? = some ⟨⟨a.lv + 1, 0, k0, k1, k2, k3⟩, (Q.node a b c d).cnt⟩ ∧ Rep nodes a k0 ∧ Rep nodes b k1 ∧ Rep nodes c k2 ∧ Rep nodes d k3 ∧ b.lv = a.lv ∧ c.lv = a.lv ∧ d.lv = a.lv
theorem Rep.ext {nodes : List Nd} (l : List Nd) : ∀ {q : Q} {i : Nat}, Rep nodes q i → Rep (nodes ++ l) q i
  | .leaf f, i, h => ⟨by
      have hi := (List.getElem?_eq_some_iff.1 h.1).1
      rw [List.getElem?_append_left hi]; exact h.1, h.2⟩
  | .node a b c d, i, h => by
    obtain ⟨k0, k1, k2, k3, hx, h0, h1, h2, h3, hb, hc, hd⟩ := h
    have hi := (List.getElem?_eq_some_iff.1 hx).1
    exact ⟨k0, k1, k2, k3, by rw [List.getElem?_append_left hi]; exact hx, h0.ext l, h1.ext l, h2.ext l, h3.ext l, hb, hc, hd⟩
theorem Rep.get {nodes : List Nd} : ∀ {q : Q} {i : Nat}, Rep nodes q i → ∃ x, nodes[i]? = some x ∧ x.key.level = q.lv ∧ x.count = q.cnt
  | .leaf f, i, h => ⟨_, h.1, rfl, rfl⟩
  | .node a b c d, i, h => by
    obtain ⟨k0, k1, k2, k3, hx, _⟩ := h
    exact ⟨_, hx, rfl, rfl⟩
theorem Rep.lt {nodes : List Nd} {q : Q} {i : Nat} (h : Rep nodes q i) : i < nodes.length := by
  obtain ⟨x, hx, _⟩ := h.get
  exact (List.getElem?_eq_some_iff.1 hx).1
theorem Rep.lv {nodes : List Nd} {q : Q} {i : Nat} (h : Rep nodes q i) : lvAt nodes i = q.lv := by
  obtain ⟨x, hx, hl, _⟩ := h.get
  rw [lvAt_some (by rw [Int.toNat_natCast]; exact hx), hl]
theorem Rep.cnt {nodes : List Nd} {q : Q} {i : Nat} (h : Rep nodes q i) : cntAt nodes i = q.cnt := by
  obtain ⟨x, hx, _, hc⟩ := h.get
  rw [cntAt_some (by rw [Int.toNat_natCast]; exact hx), hc]
theorem Rep.ok {nodes : List Nd} : ∀ {q : Q} {i : Nat}, Rep nodes q i → q.ok
  | .leaf f, i, h => h.2
  | .node a b c d, i, h => by
    obtain ⟨k0, k1, k2, k3, hx, h0, h1, h2, h3, hb, hc, hd⟩ := h
    exact ⟨h0.ok, h1.ok, h2.ok, h3.ok, hb, hc, hd⟩
theorem leafKey_eq {f g : Nat} (h : leafKey f = leafKey g) : f = g := by
  unfold leafKey at h
  injection h with h1 h2
  omega
/-- a node stands for one square -/
theorem Rep.one {nodes : List Nd} : ∀ {q q' : Q} {i : Nat}, Rep nodes q i → Rep nodes q' i → q = q'
  | .leaf f, .leaf g, i, h, h' => by
    have e := h.1.symm.trans h'.1
    injection e with e
    injection e with e _
    rw [leafKey_eq e]
  | .leaf f, .node a b c d, i, h, h' => by
    obtain ⟨k0, k1, k2, k3, hx, _⟩ := h'
    have e := h.1.symm.trans hx
    injection e with e
    injection e with e _
    have e2 : (2 : Int) = a.lv + 1 := congrArg Key.level e
    have := a.lv_ge
    omega
  | .node a b c d, .leaf f, i, h', h => by
    obtain ⟨k0, k1, k2, k3, hx, _⟩ := h'
    have e := h.1.symm.trans hx
    injection e with e
    injection e with e _
    have e2 : (2 : Int) = a.lv + 1 := congrArg Key.level e
    have := a.lv_ge
    omega
  | .node a b c d, .node a' b' c' d', i, h, h' => by
    obtain ⟨k0, k1, k2, k3, hx, h0, h1, h2, h3, _⟩ := h
    obtain ⟨j0, j1, j2, j3, hx', g0, g1, g2, g3, _⟩ := h'
    have e := hx.symm.trans hx'
    injection e with e
    injection e with e _
    injection e with _ _ e0 e1 e2 e3
    obtain rfl : k0 = j0 := by omega
    obtain rfl : k1 = j1 := by omega
    obtain rfl : k2 = j2 := by omega
    obtain rfl : k3 = j3 := by omega
    rw [h0.one g0, h1.one g1, h2.one g2, h3.one g3]
/-- nodes, each once -/
def Once (nodes : List Nd) : Prop := ∀ (i j : Nat) (x y : Nd), nodes[i]? = some x → nodes[j]? = some y → x.key = y.key → i = j
/-- a square has one node -/
theorem Rep.same {nodes : List Nd} (ho : Once nodes) : ∀ {q : Q} {i j : Nat}, Rep nodes q i → Rep nodes q j → i = j
  | .leaf f, i, j, h, h' => ho i j _ _ h.1 h'.1 rfl
  | .node a b c d, i, j, h, h' => by
    obtain ⟨k0, k1, k2, k3, hx, h0, h1, h2, h3, _⟩ := h
    obtain ⟨j0, j1, j2, j3, hx', g0, g1, g2, g3, _⟩ := h'
    have e0 := h0.same ho g0
    have e1 := h1.same ho g1
    have e2 := h2.same ho g2
    have e3 := h3.same ho g3
    subst e0 e1 e2 e3
    exact ho i j _ _ hx hx' rfl
/-- each node stands for a square -/
def WF (nodes : List Nd) : Prop := ∀ i, i < nodes.length → ∃ q, Rep nodes q i
theorem WF.snoc {nodes : List Nd} {nd : Nd} (h : WF nodes) (hn : ∃ q, Rep (nodes ++ [nd]) q nodes.length) : WF (nodes ++ [nd]) := by
  intro i hi
  by_cases hlt : i < nodes.length
  · obtain ⟨q, hq⟩ := h i hlt
    exact ⟨q, hq.ext _⟩
  · obtain rfl : i = nodes.length := by simp at hi; omega
    exact hn
/-- what a step leaves that finds, or makes, the node of a square -/
structure Makes (nodes : List Nd) (most : Int) (q : Q) (r : List Nd × Int × Int) : Prop where
  ext : ∃ l, r.1 = nodes ++ l ∧ l.length ≤ 1
  wf : WF r.1
  good : r.2.2 = 0 → ∃ i : Nat, r.2.1 = i ∧ Rep r.1 q i
  bad : r.2.2 ≠ 0 → r.1 = nodes ∧ r.2.1 = 0 ∧ r.2.2 = 8 ∧ most ≤ nodes.length ∧ ∀ i, ¬ Rep nodes q i
  had : ∀ i, Rep nodes q i → r = (nodes, (i : Int), 0)
  new : ∀ j : Nat, nodes.length ≤ j → j < r.1.length → r.2.1 = j ∧ r.2.2 = 0
theorem add_makes {nodes : List Nd} (hw : WF nodes) (ho : Once nodes) (most : Int) (q : Q) (k : Key) (c : Int) (hc : min c 4611686018427387904 = q.cnt) (hnew : Rep (nodes ++ [⟨k, q.cnt⟩]) q nodes.length) (hold : ∀ (i : Nat) (x : Nd), nodes[i]? = some x → x.key = k → Rep nodes q i) (hkey : ∀ i, Rep nodes q i → ∃ x, nodes[i]? = some x ∧ x.key = k) :
    Makes nodes most q (addN nodes most k c) := by
  unfold addN
  rw [hc]
  cases h : idx nodes k with
  | some i =>
    obtain ⟨x, hx, hk⟩ := idx_some h
    have hr := hold i x hx hk
    exact ⟨⟨[], by simp⟩, hw, fun _ => ⟨i, rfl, hr⟩, fun h => absurd rfl h, fun j hj => by rw [hr.same ho hj], fun j h1 h2 => by dsimp only at h2; omega⟩
  | none =>
    have hno : ∀ i, ¬ Rep nodes q i := fun i hi => by
      obtain ⟨x, hx, hk⟩ := hkey i hi
      exact idx_none h i x hx hk
    dsimp only
    split
    · rename_i hm
      exact ⟨⟨[], by simp⟩, hw, fun h => by simp at h, fun _ => ⟨rfl, rfl, rfl, hm, hno⟩, fun i hi => absurd hi (hno i), fun j h1 h2 => by dsimp only at h2; omega⟩
    · exact ⟨⟨_, rfl, by simp⟩, hw.snoc ⟨q, hnew⟩, fun _ => ⟨nodes.length, rfl, hnew⟩, fun h => absurd rfl h, fun i hi => absurd hi (hno i), fun j h1 h2 => by
        have : j = nodes.length := by simp at h2; omega
        exact ⟨by rw [this], rfl⟩⟩
theorem leaf_makes {nodes : List Nd} (hw : WF nodes) (ho : Once nodes) (most : Int) (f : Nat) (hf : f < 4294967296) : Makes nodes most (.leaf f) (addN nodes most (leafKey f) (popN 32 f : Nat)) := by
  have hp := popN_le 32 f
  refine add_makes hw ho most _ _ _ (by show min ((popN 32 f : Nat) : Int) _ = (popN 32 f : Nat); omega) ⟨by rw [List.getElem?_append_right (Nat.le_refl _)]; simp [Q.cnt], hf⟩ (fun i x hx hk => ?_) (fun i hi => ⟨_, hi.1, rfl⟩)
  obtain ⟨q, hq⟩ := hw i (List.getElem?_eq_some_iff.1 hx).1
  cases q with
  | leaf g =>
    have e := hq.1.symm.trans hx
    injection e with e
    have e2 : leafKey g = leafKey f := by rw [← hk, ← e]
    obtain rfl := leafKey_eq e2
    exact hq
  | node a b c d =>
    obtain ⟨k0, k1, k2, k3, hx', _⟩ := hq
    have e := hx'.symm.trans hx
    injection e with e
    have e2 : a.lv + 1 = 2 := by rw [← e] at hk; exact congrArg Key.level hk
    have := a.lv_ge
    omega
theorem join_makes {nodes : List Nd} (hw : WF nodes) (ho : Once nodes) (most : Int) {a b c d : Q} {k0 k1 k2 k3 : Nat} (h0 : Rep nodes a k0) (h1 : Rep nodes b k1) (h2 : Rep nodes c k2) (h3 : Rep nodes d k3) (hb : b.lv = a.lv) (hc : c.lv = a.lv) (hd : d.lv = a.lv) (hl : a.lv ≤ 43) :
    Makes nodes most (.node a b c d) (joinN nodes most k0 k1 k2 k3) := by
  have hfit : fitsB nodes k0 k1 k2 k3 := ⟨by rw [h0.lv]; have := a.lv_ge; omega, by rw [h1.lv, h0.lv, hb], by rw [h2.lv, h0.lv, hc], by rw [h3.lv, h0.lv, hd]⟩
  have hs : sumTo nodes k0 k1 k2 k3 4 = (Q.node a b c d).cnt := by
    simp only [sumTo, kidOf, List.getD_cons_zero, List.getD_cons_succ, Q.cnt, h0.cnt, h1.cnt, h2.cnt, h3.cnt]
  have hbd := (Q.node a b c d).cnt_bd
  unfold joinN
  rw [if_pos hfit, if_neg (by rw [h0.lv]; omega), h0.lv, hs]
  refine add_makes hw ho most _ _ _ (by omega) ⟨k0, k1, k2, k3, by rw [List.getElem?_append_right (Nat.le_refl _)]; simp, h0.ext _, h1.ext _, h2.ext _, h3.ext _, hb, hc, hd⟩ (fun i x hx hk => ?_) (fun i hi => ?_)
  · obtain ⟨q, hq⟩ := hw i (List.getElem?_eq_some_iff.1 hx).1
    cases q with
    | leaf g =>
      have e := hq.1.symm.trans hx
      injection e with e
      have e2 : (2 : Int) = a.lv + 1 := by rw [← e] at hk; exact congrArg Key.level hk
      have := a.lv_ge
      omega
    | node a' b' c' d' =>
      obtain ⟨j0, j1, j2, j3, hx', g0, g1, g2, g3, gb, gc, gd⟩ := hq
      have e := hx'.symm.trans hx
      injection e with e
      rw [← e] at hk
      injection hk with _ _ e0 e1 e2 e3
      obtain rfl : k0 = j0 := by omega
      obtain rfl : k1 = j1 := by omega
      obtain rfl : k2 = j2 := by omega
      obtain rfl : k3 = j3 := by omega
      obtain rfl := g0.one h0
      obtain rfl := g1.one h1
      obtain rfl := g2.one h2
      obtain rfl := g3.one h3
      exact ⟨_, _, _, _, hx', g0, g1, g2, g3, gb, gc, gd⟩
  · obtain ⟨j0, j1, j2, j3, hx', g0, g1, g2, g3, gb, gc, gd⟩ := hi
    refine ⟨_, hx', ?_⟩
    rw [g0.same ho h0, g1.same ho h1, g2.same ho h2, g3.same ho h3]
end Go.Proofs.Ytpmipllohiiocaa.ar
namespace Go.Proofs.Ytpmipllohiiocaa.ar
open Go.RowKit Go.Proofs.Ytpmipllohiiocaa.lb

def emptyQ : Nat → Q
  | 0 => .leaf 0
  | n + 1 => .node (emptyQ n) (emptyQ n) (emptyQ n) (emptyQ n)
theorem emptyQ_lv : ∀ n, (emptyQ n).lv = (n : Int) + 2
  | 0 => rfl
  | n + 1 => by show (emptyQ n).lv + 1 = _; rw [emptyQ_lv n]; omega
/-- the square of level n + 2 from a least point on, its leaves as a function has them -/
def canQ (G : Int → Int → Nat) : Nat → Int → Int → Q
  | 0, a, b => .leaf (G a b)
  | n + 1, a, b => .node (canQ G n a b) (canQ G n (a + 2 ^ (n + 2)) b) (canQ G n a (b + 2 ^ (n + 2))) (canQ G n (a + 2 ^ (n + 2)) (b + 2 ^ (n + 2)))
theorem canQ_lv (G : Int → Int → Nat) : ∀ n a b, (canQ G n a b).lv = (n : Int) + 2
  | 0, _, _ => rfl
  | n + 1, a, b => by show (canQ G n a b).lv + 1 = _; rw [canQ_lv G n]; omega
theorem two_pos (n : Nat) : (1 : Int) ≤ 2 ^ n := by
  have : (0 : Int) < 2 ^ n := Int.pow_pos (by decide)
  omega
theorem two_succ (n : Nat) : (2 : Int) ^ (n + 1) = 2 * 2 ^ n := by rw [Int.pow_succ]; omega
/-- squares are the same where their leaves are -/
theorem canQ_same {G G' : Int → Int → Nat} : ∀ (n : Nat) (a b : Int), (∀ x y, a ≤ x → x < a + 2 ^ (n + 2) → b ≤ y → y < b + 2 ^ (n + 2) → G x y = G' x y) → canQ G n a b = canQ G' n a b
  | 0, a, b, h => by
    show Q.leaf _ = Q.leaf _
    rw [h a b (by omega) (by have := two_pos 2; omega) (by omega) (by have := two_pos 2; omega)]
  | n + 1, a, b, h => by
    have h2 : (2 : Int) ^ (n + 1 + 2) = 2 * 2 ^ (n + 2) := two_succ (n + 2)
    have hp := two_pos (n + 2)
    show Q.node _ _ _ _ = Q.node _ _ _ _
    rw [canQ_same n a b (fun x y h3 h4 h5 h6 => h x y (by omega) (by omega) (by omega) (by omega)),
      canQ_same n (a + 2 ^ (n + 2)) b (fun x y h3 h4 h5 h6 => h x y (by omega) (by omega) (by omega) (by omega)),
      canQ_same n a (b + 2 ^ (n + 2)) (fun x y h3 h4 h5 h6 => h x y (by omega) (by omega) (by omega) (by omega)),
      canQ_same n (a + 2 ^ (n + 2)) (b + 2 ^ (n + 2)) (fun x y h3 h4 h5 h6 => h x y (by omega) (by omega) (by omega) (by omega))]
theorem canQ_zero : ∀ (n : Nat) (a b : Int), canQ (fun _ _ => 0) n a b = emptyQ n
  | 0, _, _ => rfl
  | n + 1, a, b => by show Q.node _ _ _ _ = Q.node _ _ _ _; rw [canQ_zero n, canQ_zero n, canQ_zero n, canQ_zero n]
theorem canQ_empty {G : Int → Int → Nat} (n : Nat) (a b : Int) (h : ∀ x y, a ≤ x → x < a + 2 ^ (n + 2) → b ≤ y → y < b + 2 ^ (n + 2) → G x y = 0) : canQ G n a b = emptyQ n := by
  rw [canQ_same n a b h, canQ_zero]
/-- what the arena has of nodes without cells -/
structure EmQ (nodes : List Nd) (empty : List Int) : Prop where
  lo : 3 ≤ empty.length
  hi : empty.length ≤ 45
  rep : ∀ i, 2 ≤ i → i < empty.length → ∃ k : Nat, empty.getD i 0 = (k : Int) ∧ Rep nodes (emptyQ (i - 2)) k
theorem EmQ.ext {nodes : List Nd} {empty : List Int} (h : EmQ nodes empty) (l : List Nd) : EmQ (nodes ++ l) empty :=
  ⟨h.lo, h.hi, fun i h1 h2 => by obtain ⟨k, e, hr⟩ := h.rep i h1 h2; exact ⟨k, e, hr.ext l⟩⟩
theorem once_snoc {nodes : List Nd} {k : Key} {c : Int} (h : Once nodes) (hn : ∀ (i : Nat) (x : Nd), nodes[i]? = some x → x.key ≠ k) : Once (nodes ++ [⟨k, c⟩]) := by
  intro i j x y hx hy he
  rw [List.getElem?_append] at hx hy
  split at hx <;> split at hy
  · exact h i j x y hx hy he
  · rw [List.getElem?_singleton] at hy
    split at hy
    · obtain rfl := Option.some.inj hy
      exact absurd he (hn i x hx)
    · cases hy
  · rw [List.getElem?_singleton] at hx
    split at hx
    · obtain rfl := Option.some.inj hx
      exact absurd he.symm (hn j y hy)
    · cases hx
  · rw [List.getElem?_singleton] at hx hy
    split at hx
    · split at hy
      · omega
      · cases hy
    · cases hx
theorem add_once {nodes : List Nd} (h : Once nodes) (most : Int) (k : Key) (c : Int) : Once (addN nodes most k c).1 := by
  unfold addN
  split
  · exact h
  · rename_i hn
    split
    · exact h
    · exact once_snoc h (idx_none hn)
theorem join_once {nodes : List Nd} (h : Once nodes) (most k0 k1 k2 k3 : Int) : Once (joinN nodes most k0 k1 k2 k3).1 := by
  unfold joinN
  split
  · split
    · exact h
    · exact add_once h _ _ _
  · exact h
/-- what Empty leaves -/
structure EMakes (nodes : List Nd) (empty : List Int) (most : Int) (n : Nat) (r : List Nd × List Int × Int × Int) : Prop where
  ext : ∃ l, r.1 = nodes ++ l ∧ l.length + empty.length ≤ r.2.1.length
  wf : WF r.1
  once : Once r.1
  emq : EmQ r.1 r.2.1
  good : r.2.2.2 = 0 → ∃ i : Nat, r.2.2.1 = i ∧ Rep r.1 (emptyQ n) i
  bad : r.2.2.2 ≠ 0 → r.2.2.1 = 0 ∧ r.2.2.2 = 8 ∧ most ≤ r.1.length
theorem emptyGo_makes (most : Int) (n : Nat) (hn : n ≤ 42) : ∀ (m : Nat) (nodes : List Nd) (empty : List Int), WF nodes → Once nodes → EmQ nodes empty → (n + 2 < empty.length + m) → (empty.length + m ≤ 45) → EMakes nodes empty most n (emptyGo most ((n : Int) + 2) m nodes empty)
  | 0, nodes, empty, hw, ho, he, h1, h2 => by
    obtain ⟨k, hk, hr⟩ := he.rep (n + 2) (by omega) (by omega)
    refine ⟨⟨[], by simp [emptyGo], by simp [emptyGo]⟩, hw, ho, he, fun _ => ⟨k, ?_, ?_⟩, fun h => absurd rfl h⟩
    · show empty.getD ((n : Int) + 2).toNat 0 = _
      rw [show ((n : Int) + 2).toNat = n + 2 by omega]; exact hk
    · rw [show n + 2 - 2 = n by omega] at hr; exact hr
  | m + 1, nodes, empty, hw, ho, he, h1, h2 => by
    have hlo := he.lo
    obtain ⟨k, hk, hr⟩ := he.rep (empty.length - 1) (by omega) (by omega)
    have hm := join_makes hw ho most hr hr hr hr rfl rfl rfl (by rw [emptyQ_lv]; omega)
    have hjo := join_once ho most k k k k
    unfold emptyGo
    simp only [hk]
    split
    · rename_i h0
      obtain ⟨i, hi, hri⟩ := hm.good h0
      obtain ⟨l, hl, hll⟩ := hm.ext
      have he2 : EmQ (joinN nodes most k k k k).1 (empty ++ [(joinN nodes most k k k k).2.1]) := by
        refine ⟨by simp; omega, by simp; omega, fun j h3 h4 => ?_⟩
        by_cases hj : j < empty.length
        · obtain ⟨k', hk', hr'⟩ := he.rep j h3 hj
          refine ⟨k', ?_, by rw [hl]; exact hr'.ext l⟩
          rw [List.getD_eq_getElem?_getD, List.getElem?_append_left hj, ← List.getD_eq_getElem?_getD]; exact hk'
        · obtain rfl : j = empty.length := by simp at h4; omega
          refine ⟨i, ?_, ?_⟩
          · rw [List.getD_eq_getElem?_getD, List.getElem?_append_right (Nat.le_refl _)]; simpa using hi
          · rw [show empty.length - 2 = (empty.length - 1 - 2) + 1 by omega]; exact hri
      have ih := emptyGo_makes most n hn m _ _ hm.wf hjo he2 (by simp; omega) (by simp; omega)
      obtain ⟨l2, hl2, hll2⟩ := ih.ext
      refine ⟨⟨l ++ l2, by rw [hl2, hl, List.append_assoc], ?_⟩, ih.wf, ih.once, ih.emq, ih.good, ih.bad⟩
      rw [List.length_append] at hll2 ⊢
      simp only [List.length_singleton] at hll2
      omega
    · rename_i h0
      obtain ⟨h3, h4, h5, h6, _⟩ := hm.bad h0
      refine ⟨⟨[], by simp [h3], by simp⟩, hm.wf, hjo, by rw [h3]; exact he, fun h => absurd h h0, fun _ => ⟨rfl, h5, by rw [h3]; exact h6⟩⟩
theorem empty_makes {nodes : List Nd} {empty : List Int} (most : Int) (n : Nat) (hn : n ≤ 42) (hw : WF nodes) (ho : Once nodes) (he : EmQ nodes empty) : EMakes nodes empty most n (emptyN nodes empty most ((n : Int) + 2)) := by
  have h1 := he.lo
  have h2 := he.hi
  unfold emptyN
  rw [if_neg (by omega), if_neg (by omega), show ((n : Int) + 2).toNat = n + 2 by omega]
  by_cases h : n + 2 + 1 ≤ empty.length
  · exact emptyGo_makes most n hn _ _ _ hw ho he (by omega) (by omega)
  · exact emptyGo_makes most n hn _ _ _ hw ho he (by omega) (by omega)
theorem emq0 : EmQ [nd0] [0, 0, 0] := ⟨by simp, by simp, fun i h1 h2 => by
  obtain rfl : i = 2 := by simp at h2; omega
  exact ⟨0, rfl, rfl, by decide⟩⟩
end Go.Proofs.Ytpmipllohiiocaa.ar
namespace Go.Proofs.Ytpmipllohiiocaa.ar
open Go.RowKit Go.Proofs.Ytpmipllohiiocaa.lb

/-- the exponent of a square's side -/
def Q.ex : Q → Nat
  | .leaf _ => 2
  | .node a _ _ _ => a.ex + 1
theorem Q.lv_ex : ∀ q : Q, q.lv = (q.ex : Int)
  | .leaf _ => rfl
  | .node a _ _ _ => by show a.lv + 1 = ((a.ex + 1 : Nat) : Int); rw [a.lv_ex]; omega
theorem Q.ex_of_lv {q q' : Q} (h : q.lv = q'.lv) : q.ex = q'.ex := by rw [q.lv_ex, q'.lv_ex] at h; omega
/-- does a cell live: by its place in the square, its half -/
def Q.has : Q → Int → Int → Int → Bool
  | .leaf f, x, y, h => decide (bitv f (8 * y + 2 * x + h).toNat = 1)
  | .node a b c d, x, y, h =>
    if x < 2 ^ a.ex then (if y < 2 ^ a.ex then a.has x y h else c.has x (y - 2 ^ a.ex) h)
    else (if y < 2 ^ a.ex then b.has (x - 2 ^ a.ex) y h else d.has (x - 2 ^ a.ex) (y - 2 ^ a.ex) h)
/-- a place of a square of that side -/
structure InQ (n : Nat) (x y h : Int) : Prop where
  x0 : 0 ≤ x
  x1 : x < 2 ^ n
  y0 : 0 ≤ y
  y1 : y < 2 ^ n
  h0 : 0 ≤ h
  h1 : h < 2
theorem bitv_bd (f : Int) (j : Nat) : bitv f j = 0 ∨ bitv f j = 1 := by unfold bitv; omega
theorem ext_bits (f g : Nat) (hf : f < 4294967296) (hg : g < 4294967296) (h : ∀ j, j < 32 → bitv f j = bitv g j) : f = g := by
  have := ext_dig 16 f g (by omega) (by rw [show (4 : Int) ^ 16 = 4294967296 from rfl]; omega) (by omega) (by rw [show (4 : Int) ^ 16 = 4294967296 from rfl]; omega) (fun k hk => by
    have h1 := dig_bits f k
    have h2 := dig_bits g k
    have h3 := h (2 * k) (by omega)
    have h4 := h (2 * k + 1) (by omega)
    rw [← h1.1, ← h2.1] at h3
    rw [← h1.2, ← h2.2] at h4
    omega)
  omega
/-- squares with the same cells are the same -/
theorem Q.ext_has : ∀ {q q' : Q}, q.ok → q'.ok → q.ex = q'.ex → (∀ x y h, InQ q.ex x y h → q.has x y h = q'.has x y h) → q = q'
  | .leaf f, .leaf g, hf, hg, _, h => by
    rw [ext_bits f g hf hg (fun j hj => by
      have := h (j % 8 / 2 : Nat) (j / 8 : Nat) (j % 2 : Nat) ⟨by omega, by show _ < (2 : Int) ^ 2; omega, by omega, by show _ < (2 : Int) ^ 2; omega, by omega, by omega⟩
      unfold Q.has at this
      rw [show (8 * ((j / 8 : Nat) : Int) + 2 * ((j % 8 / 2 : Nat) : Int) + ((j % 2 : Nat) : Int)).toNat = j by omega] at this
      have h1 := bitv_bd f j
      have h2 := bitv_bd g j
      rcases h1 with h1 | h1 <;> rcases h2 with h2 | h2 <;> rw [h1, h2] at this <;> simp_all)]
  | .leaf f, .node a b c d, _, _, he, _ => by
    have h1 := a.lv_ex
    have h2 := a.lv_ge
    have : 2 = a.ex + 1 := he
    omega
  | .node a b c d, .leaf f, _, _, he, _ => by
    have h1 := a.lv_ex
    have h2 := a.lv_ge
    have : a.ex + 1 = 2 := he
    omega
  | .node a b c d, .node a' b' c' d', ho, ho', he, h => by
    obtain ⟨oa, ob, oc, od, lb, lc, ld⟩ := ho
    obtain ⟨oa', ob', oc', od', lb', lc', ld'⟩ := ho'
    have ea : a.ex = a'.ex := by have : a.ex + 1 = a'.ex + 1 := he; omega
    have eb := Q.ex_of_lv lb
    have ec := Q.ex_of_lv lc
    have ed := Q.ex_of_lv ld
    have eb' := Q.ex_of_lv lb'
    have ec' := Q.ex_of_lv lc'
    have ed' := Q.ex_of_lv ld'
    have hp := two_pos a.ex
    have h2 : (2 : Int) ^ (a.ex + 1) = 2 * 2 ^ a.ex := two_succ a.ex
    have key : ∀ x y h, InQ a.ex x y h → a.has x y h = a'.has x y h ∧ b.has x y h = b'.has x y h ∧ c.has x y h = c'.has x y h ∧ d.has x y h = d'.has x y h := by
      intro x y t hi
      obtain ⟨x0, x1, y0, y1, t0, t1⟩ := hi
      have k0 := h x y t ⟨x0, by show _ < (2 : Int) ^ (a.ex + 1); omega, y0, by show _ < (2 : Int) ^ (a.ex + 1); omega, t0, t1⟩
      have k1 := h (x + 2 ^ a.ex) y t ⟨by omega, by show _ < (2 : Int) ^ (a.ex + 1); omega, y0, by show _ < (2 : Int) ^ (a.ex + 1); omega, t0, t1⟩
      have k2 := h x (y + 2 ^ a.ex) t ⟨x0, by show _ < (2 : Int) ^ (a.ex + 1); omega, by omega, by show _ < (2 : Int) ^ (a.ex + 1); omega, t0, t1⟩
      have k3 := h (x + 2 ^ a.ex) (y + 2 ^ a.ex) t ⟨by omega, by show _ < (2 : Int) ^ (a.ex + 1); omega, by omega, by show _ < (2 : Int) ^ (a.ex + 1); omega, t0, t1⟩
      unfold Q.has at k0 k1 k2 k3
      rw [← ea] at k0 k1 k2 k3
      rw [if_pos x1, if_pos y1, if_pos x1, if_pos y1] at k0
      rw [if_neg (by omega), if_pos y1, if_neg (by omega), if_pos y1, Int.add_sub_cancel] at k1
      rw [if_pos x1, if_neg (by omega), if_pos x1, if_neg (by omega), Int.add_sub_cancel] at k2
      rw [if_neg (by omega), if_neg (by omega), if_neg (by omega), if_neg (by omega), Int.add_sub_cancel, Int.add_sub_cancel] at k3
      exact ⟨k0, k1, k2, k3⟩
    rw [Q.ext_has oa oa' ea (fun x y t hi => (key x y t hi).1), Q.ext_has ob ob' (by omega) (fun x y t hi => (key x y t (by rw [← eb]; exact hi)).2.1),
      Q.ext_has oc oc' (by omega) (fun x y t hi => (key x y t (by rw [← ec]; exact hi)).2.2.1), Q.ext_has od od' (by omega) (fun x y t hi => (key x y t (by rw [← ed]; exact hi)).2.2.2)]
theorem canQ_ex (G : Int → Int → Nat) (n : Nat) (a b : Int) : (canQ G n a b).ex = n + 2 := by
  have h1 := canQ_lv G n a b
  rw [Q.lv_ex] at h1
  omega
/-- the leaves of a square's function -/
theorem canQ_has (G : Int → Int → Nat) : ∀ (n : Nat) (a b x y h : Int), InQ (n + 2) x y h → (canQ G n a b).has x y h = decide (bitv (G (a + (x - x % 4)) (b + (y - y % 4))) (8 * (y % 4) + 2 * (x % 4) + h).toNat = 1)
  | 0, a, b, x, y, h, hi => by
    obtain ⟨x0, x1, y0, y1, _, _⟩ := hi
    have e4 : (2 : Int) ^ (0 + 2) = 4 := rfl
    rw [e4] at x1 y1
    show decide _ = decide _
    rw [show x % 4 = x by omega, show y % 4 = y by omega, show a + (x - x) = a by omega, show b + (y - y) = b by omega]
  | n + 1, a, b, x, y, h, hi => by
    obtain ⟨x0, x1, y0, y1, h0, h1⟩ := hi
    have h2 : (2 : Int) ^ (n + 1 + 2) = 2 * 2 ^ (n + 2) := two_succ (n + 2)
    have hp := two_pos n
    have h4 : (2 : Int) ^ (n + 2) = 4 * 2 ^ n := by rw [two_succ, two_succ]; omega
    show (Q.node _ _ _ _).has x y h = _
    unfold Q.has
    rw [canQ_ex]
    by_cases cx : x < 2 ^ (n + 2)
    · rw [if_pos cx]
      by_cases cy : y < 2 ^ (n + 2)
      · rw [if_pos cy]
        exact canQ_has G n a b x y h ⟨x0, cx, y0, cy, h0, h1⟩
      · rw [if_neg cy, canQ_has G n _ _ _ _ h ⟨x0, cx, by omega, by omega, h0, h1⟩]
        rw [show (y - 2 ^ (n + 2)) % 4 = y % 4 by omega, show b + 2 ^ (n + 2) + (y - 2 ^ (n + 2) - y % 4) = b + (y - y % 4) by omega]
    · rw [if_neg cx]
      by_cases cy : y < 2 ^ (n + 2)
      · rw [if_pos cy, canQ_has G n _ _ _ _ h ⟨by omega, by omega, y0, cy, h0, h1⟩]
        rw [show (x - 2 ^ (n + 2)) % 4 = x % 4 by omega, show a + 2 ^ (n + 2) + (x - 2 ^ (n + 2) - x % 4) = a + (x - x % 4) by omega]
      · rw [if_neg cy, canQ_has G n _ _ _ _ h ⟨by omega, by omega, by omega, by omega, h0, h1⟩]
        rw [show (x - 2 ^ (n + 2)) % 4 = x % 4 by omega, show a + 2 ^ (n + 2) + (x - 2 ^ (n + 2) - x % 4) = a + (x - x % 4) by omega, show (y - 2 ^ (n + 2)) % 4 = y % 4 by omega, show b + 2 ^ (n + 2) + (y - 2 ^ (n + 2) - y % 4) = b + (y - y % 4) by omega]
theorem canQ_ok {G : Int → Int → Nat} (hG : ∀ a b, G a b < 4294967296) : ∀ (n : Nat) (a b : Int), (canQ G n a b).ok
  | 0, a, b => hG a b
  | n + 1, a, b => ⟨canQ_ok hG n _ _, canQ_ok hG n _ _, canQ_ok hG n _ _, canQ_ok hG n _ _, by rw [canQ_lv, canQ_lv], by rw [canQ_lv, canQ_lv], by rw [canQ_lv, canQ_lv]⟩
end Go.Proofs.Ytpmipllohiiocaa.ar
namespace Go.Proofs.Ytpmipllohiiocaa.ar
open Go.RowKit Go.Proofs.YtpmipllohiiocaaW.PrintWords Go.Proofs.YtpmipllohiiocaaW.PrintLast Go.Proofs.YtpmipllohiiocaaW.PrintMore Go.Proofs.Ytpmipllohiiocaa.bs Go.ChangeShapes Go.Proofs.Ytpmipllohiiocaa.lb

/-- an arena whose nodes stand for squares -/
structure Tr (w0 w : World) (F : Nat → Prop) (p : Nat) (nodes : List Nd) (empty : List Int) (most : Int) : Prop where
  hold : Hold w0 w F p nodes empty most
  wf : WF nodes
  emq : EmQ nodes empty
  emb : ∀ i, 0 ≤ empty.getD i 0 ∧ empty.getD i 0 < 4294967296
  lim : (nodes.length : Int) ≤ most
  el : w0.heap.size ≤ w.heap.size
/-- the arena behind some calls: more nodes; all other blocks as they were -/
structure Ste (w0 w2 w3 : World) (F F' : Nat → Prop) (p : Nat) (nodes nodes' : List Nd) (empty empty' : List Int) (most : Int) : Prop where
  tr : Tr w0 w3 F' p nodes' empty' most
  old : ∀ k, k < w2.heap.size → (F' k ↔ F k)
  keeps : Keeps F w2 w3
  ext : ∃ l, nodes' = nodes ++ l
  eml : empty.length ≤ empty'.length
/-- a node, or the code 8 -/
def Res (nodes : List Nd) (most : Int) (q : Q) (r code : Int) : Prop :=
  (code = 0 ∧ ∃ i : Nat, r = (i : Int) ∧ Rep nodes q i) ∨ (r = 0 ∧ code = 8 ∧ most ≤ nodes.length)
/-- what is left by a call that answers a square's node: at most k new ones (but for those without cells); none, if it had it -/
structure Gets (w0 w2 : World) (F : Nat → Prop) (p : Nat) (nodes : List Nd) (empty : List Int) (most : Int) (q : Q) (k : Nat) (had : Prop) (e : Ending) (w' : World) : Prop where
  ex : ∃ F' nodes' empty' r code, e = .returned (.tuple #[.int .u32 r, errOf code]) ∧ Ste w0 w2 w' F F' p nodes nodes' empty empty' most ∧ nodes'.length + empty.length ≤ nodes.length + k + empty'.length ∧
    Res nodes' most q r code ∧ (had → nodes' = nodes ∧ code = 0)
section
variable {w0 w w1 w2 w3 : World} {F F' F2 G : Nat → Prop} {p : Nat} {nodes nodes' nodes2 : List Nd} {empty empty' empty2 : List Int} {most : Int}
theorem Tr.once (h : Tr w0 w F p nodes empty most) : Once nodes := h.hold.ar.once
theorem Tr.emok (h : Tr w0 w F p nodes empty most) : EmOk nodes empty := ⟨h.emq.lo, h.emq.hi, h.emb⟩
theorem Tr.below (h : Tr w0 w F p nodes empty most) (hb : Below w.heap.size w w1) : Tr w0 w1 F p nodes empty most :=
  ⟨h.hold.below hb, h.wf, h.emq, h.emb, h.lim, Nat.le_trans h.el hb.size⟩
theorem Tr.other (h : Tr w0 w F p nodes empty most) (hk : Keeps G w w1) (hd : ∀ k, F k → ¬ G k) : Tr w0 w1 F p nodes empty most :=
  ⟨h.hold.kept hk.kept hd, h.wf, h.emq, h.emb, h.lim, Nat.le_trans h.el hk.size⟩
theorem Ste.refl (h : Tr w0 w F p nodes empty most) : Ste w0 w w F F p nodes nodes empty empty most :=
  ⟨h, fun _ _ => Iff.rfl, Keeps.refl _ _, ⟨[], by simp⟩, Nat.le_refl _⟩
theorem Ste.trans (h : Ste w0 w1 w2 F F' p nodes nodes' empty empty' most) (h2 : Ste w0 w2 w3 F' F2 p nodes' nodes2 empty' empty2 most) : Ste w0 w1 w3 F F2 p nodes nodes2 empty empty2 most :=
  ⟨h2.tr, fun k hk => (h2.old k (Nat.lt_of_lt_of_le hk h.keeps.size)).trans (h.old k hk),
    ⟨h2.keeps.os.trans h.keeps.os, h2.keeps.tape.trans h.keeps.tape, h2.keeps.output.trans h.keeps.output, Nat.le_trans h.keeps.size h2.keeps.size, fun k hk hn => (h2.keeps.block k (Nat.lt_of_lt_of_le hk h.keeps.size) (fun hf => hn ((h.old k hk).1 hf))).trans (h.keeps.block k hk hn)⟩,
    by obtain ⟨l, hl⟩ := h.ext; obtain ⟨l2, hl2⟩ := h2.ext; exact ⟨l ++ l2, by rw [hl2, hl, List.append_assoc]⟩, Nat.le_trans h.eml h2.eml⟩
/-- a step that leaves the arena's blocks, and all that was there when w1 was, as they were -/
theorem Ste.past (h : Ste w0 w1 w2 F F' p nodes nodes' empty empty' most) (hk : Keeps G w2 w3) (hd : ∀ k, F' k → ¬ G k) (hn : ∀ k, G k → w1.heap.size ≤ k) : Ste w0 w1 w3 F F' p nodes nodes' empty empty' most :=
  ⟨h.tr.other hk hd, h.old, ⟨hk.os.trans h.keeps.os, hk.tape.trans h.keeps.tape, hk.output.trans h.keeps.output, Nat.le_trans h.keeps.size hk.size, fun k hlt hn2 => (hk.block k (Nat.lt_of_lt_of_le hlt h.keeps.size) (fun hg => by have := hn k hg; omega)).trans (h.keeps.block k hlt hn2)⟩, h.ext, h.eml⟩
theorem Ste.below (h : Ste w0 w1 w2 F F' p nodes nodes' empty empty' most) (hb : Below w2.heap.size w2 w3) : Ste w0 w1 w3 F F' p nodes nodes' empty empty' most :=
  h.past (G := fun _ => False) (Keeps.of_below hb) (fun _ _ h => h) (fun _ h => h.elim)
theorem Ste.from (h : Ste w0 w2 w3 F F' p nodes nodes' empty empty' most) (hb : Below w1.heap.size w1 w2) : Ste w0 w1 w3 F F' p nodes nodes' empty empty' most :=
  ⟨h.tr, fun k hk => h.old k (Nat.lt_of_lt_of_le hk hb.size), ⟨h.keeps.os.trans hb.os, h.keeps.tape.trans hb.tape, h.keeps.output.trans hb.output, Nat.le_trans hb.size h.keeps.size, fun k hk hn => (h.keeps.block k (Nat.lt_of_lt_of_le hk hb.size) hn).trans (hb.block k hk)⟩, h.ext, h.eml⟩
theorem Ste.rep (h : Ste w0 w1 w2 F F' p nodes nodes' empty empty' most) {q : Q} {i : Nat} (hr : Rep nodes q i) : Rep nodes' q i := by
  obtain ⟨l, hl⟩ := h.ext; rw [hl]; exact hr.ext l
theorem Ste.len (h : Ste w0 w1 w2 F F' p nodes nodes' empty empty' most) : nodes.length ≤ nodes'.length := by
  obtain ⟨l, hl⟩ := h.ext; rw [hl]; simp
theorem Ste.notF (h : Ste w0 w1 w2 F F' p nodes nodes' empty empty' most) {k : Nat} (hk : k < w1.heap.size) (hn : ¬ F k) : ¬ F' k := fun hf => hn ((h.old k hk).1 hf)
theorem addN_lim (nodes : List Nd) (most : Int) (k : Key) (c : Int) (h : (nodes.length : Int) ≤ most) : ((addN nodes most k c).1.length : Int) ≤ most := by
  unfold addN
  split
  · exact h
  · split
    · exact h
    · simp; omega
theorem joinN_lim (nodes : List Nd) (most k0 k1 k2 k3 : Int) (h : (nodes.length : Int) ≤ most) : ((joinN nodes most k0 k1 k2 k3).1.length : Int) ≤ most := by
  unfold joinN
  split
  · split
    · exact h
    · exact addN_lim _ _ _ _ h
  · exact h
theorem Makes.ste {q : Q} {r : List Nd × Int × Int} (h : Makes nodes most q r) (hT : Tr w0 w2 F p nodes empty most) (ho : Onto w0 w2 w3 F F' p r.1 empty most) (hl : (r.1.length : Int) ≤ most) : Ste w0 w2 w3 F F' p nodes r.1 empty empty most :=
  ⟨⟨ho.hold, h.wf, by obtain ⟨l, hl, _⟩ := h.ext; rw [hl]; exact hT.emq.ext l, hT.emb, hl, Nat.le_trans hT.el ho.keeps.size⟩, ho.old, ho.keeps, by obtain ⟨l, hl, _⟩ := h.ext; exact ⟨l, hl⟩, Nat.le_refl _⟩
theorem Makes.res {q : Q} {r : List Nd × Int × Int} (h : Makes nodes most q r) : Res r.1 most q r.2.1 r.2.2 := by
  by_cases h0 : r.2.2 = 0
  · exact .inl ⟨h0, h.good h0⟩
  · obtain ⟨h1, h2, h3, h4, _⟩ := h.bad h0
    exact .inr ⟨h2, h3, by rw [h1]; exact h4⟩
theorem Makes.gets {q : Q} {r : List Nd × Int × Int} (h : Makes nodes most q r) (hT : Tr w0 w2 F p nodes empty most) (ho : ∃ F', Onto w0 w2 w3 F F' p r.1 empty most) (hl : (r.1.length : Int) ≤ most) {e : Ending} (he : e = .returned (.tuple #[.int .u32 r.2.1, errOf r.2.2])) :
    Gets w0 w2 F p nodes empty most q 1 (∃ i, Rep nodes q i) e w3 := by
  obtain ⟨F', ho⟩ := ho
  refine ⟨F', r.1, empty, r.2.1, r.2.2, he, h.ste hT ho hl, ?_, h.res, fun ⟨i, hi⟩ => ?_⟩
  · obtain ⟨l, hl, h1⟩ := h.ext
    rw [hl, List.length_append]; omega
  · rw [h.had i hi]; exact ⟨rfl, rfl⟩
theorem Gets.from {q : Q} {k : Nat} {had : Prop} {e : Ending} (h : Gets w0 w1 F p nodes empty most q k had e w2) (hb : Below w.heap.size w w1) : Gets w0 w F p nodes empty most q k had e w2 := by
  obtain ⟨F', nodes', empty', r, code, he, hs, hl, hr, hh⟩ := h.ex
  exact ⟨F', nodes', empty', r, code, he, hs.from hb, hl, hr, hh⟩
theorem Gets.past {q : Q} {k : Nat} {had : Prop} {e : Ending} (h : Gets w0 w1 F p nodes empty most q k had e w2) (hb : Below w2.heap.size w2 w3) : Gets w0 w1 F p nodes empty most q k had e w3 := by
  obtain ⟨F', nodes', empty', r, code, he, hs, hl, hr, hh⟩ := h.ex
  exact ⟨F', nodes', empty', r, code, he, hs.below hb, hl, hr, hh⟩
theorem Gets.mono {q : Q} {k k' : Nat} {had : Prop} {e : Ending} (h : Gets w0 w1 F p nodes empty most q k had e w2) (hk : k ≤ k') : Gets w0 w1 F p nodes empty most q k' had e w2 := by
  obtain ⟨F', nodes', empty', r, code, he, hs, hl, hr, hh⟩ := h.ex
  exact ⟨F', nodes', empty', r, code, he, hs, by omega, hr, hh⟩
/-- a call's result handed on -/
theorem Gets.same {q : Q} {k : Nat} {had : Prop} {e : Ending} (h : Gets w0 w1 F p nodes empty most q k had e w2) : ∃ r code, e = .returned (.tuple #[.int .u32 r, errOf code]) ∧ Gets w0 w1 F p nodes empty most q k had (.returned (.tuple #[.int .u32 r, errOf code])) w2 := by
  have h' := h
  obtain ⟨F', nodes', empty', r, code, rfl, hs, hl, hr, hh⟩ := h.ex
  exact ⟨r, code, rfl, h'⟩
theorem Ste.belowAll {w0 w1 w2 : World} {F F' : Nat → Prop} {p : Nat} {nodes nodes' : List Nd} {empty empty' : List Int} {most : Int} (h : Ste w0 w1 w2 F F' p nodes nodes' empty empty' most) (hT : Tr w0 w1 F p nodes empty most) (hb : Below w0.heap.size w0 w1) : Below w0.heap.size w0 w2 :=
  hb.trans (h.keeps.below hT.hold.lo hb.size)
/-- with room there is a node -/
theorem Gets.sure {q : Q} {k : Nat} {had : Prop} {e : Ending} (h : Gets w0 w1 F p nodes empty most q k had e w2) (hroom : ((nodes.length + k + 45 : Nat) : Int) < most + empty.length) :
    ∃ F' nodes' empty', ∃ i : Nat, e = .returned (.tuple #[.int .u32 i, .nilIface]) ∧ Ste w0 w1 w2 F F' p nodes nodes' empty empty' most ∧ nodes'.length + empty.length ≤ nodes.length + k + empty'.length ∧ Rep nodes' q i ∧ (had → nodes' = nodes) := by
  obtain ⟨F', nodes', empty', r, code, rfl, hs, hl, hr, hh⟩ := h.ex
  have hhi := hs.tr.emq.hi
  rcases hr with ⟨rfl, i, rfl, hrep⟩ | ⟨rfl, rfl, hmost⟩
  · exact ⟨F', nodes', empty', i, rfl, hs, hl, hrep, fun h => (hh h).1⟩
  · exfalso; omega
theorem tr_leaf (h : Tr w0 w2 F p nodes empty most) (f : Nat) (hf : f < 4294967296) (hN : nodes.length < 536870860) :
    Calls Try.prog 53 #[.pointer (some ⟨p, 0, none⟩), .int .u32 f] w2 fun e w' => Gets w0 w2 F p nodes empty most (.leaf f) 1 (∃ i, Rep nodes (.leaf f) i) e w' :=
  (hold_leaf h.hold h.el f hf (by omega)).mono fun _ _ ⟨he, ho⟩ => (leaf_makes h.wf h.once most f hf).gets h ho (addN_lim _ _ _ _ h.lim) he
theorem tr_join (h : Tr w0 w2 F p nodes empty most) {a b c d : Q} {k0 k1 k2 k3 : Nat} (h0 : Rep nodes a k0) (h1 : Rep nodes b k1) (h2 : Rep nodes c k2) (h3 : Rep nodes d k3) (hb : b.lv = a.lv) (hc : c.lv = a.lv) (hd : d.lv = a.lv) (hl : a.lv ≤ 43) (hN : nodes.length < 536870860) :
    Calls Try.prog 64 #[.pointer (some ⟨p, 0, none⟩), .agg #[.int .u32 k0, .int .u32 k1, .int .u32 k2, .int .u32 k3]] w2 fun e w' => Gets w0 w2 F p nodes empty most (.node a b c d) 1 (∃ i, Rep nodes (.node a b c d) i) e w' := by
  have l0 := h0.lt; have l1 := h1.lt; have l2 := h2.lt; have l3 := h3.lt
  exact (hold_join h.hold h.el k0 k1 k2 k3 (by omega) (by omega) (by omega) (by omega) (by omega)).mono fun _ _ ⟨he, ho⟩ => (join_makes h.wf h.once most h0 h1 h2 h3 hb hc hd hl).gets h ho (joinN_lim _ _ _ _ _ _ h.lim) he
/-- a square without cells that is there: no new node -/
theorem emptyGo_had (most : Int) (n : Nat) (hn : n ≤ 42) : ∀ (m : Nat) (nodes : List Nd) (empty : List Int), WF nodes → Once nodes → EmQ nodes empty → (n + 2 < empty.length + m) → (empty.length + m ≤ n + 3 ∨ m = 0) → (∃ i, Rep nodes (emptyQ n) i) → (emptyGo most ((n : Int) + 2) m nodes empty).1 = nodes ∧ (emptyGo most ((n : Int) + 2) m nodes empty).2.2.2 = 0
  | 0, nodes, empty, _, _, _, _, _, _ => ⟨rfl, rfl⟩
  | m + 1, nodes, empty, hw, ho, he, h1, h2, hi => by
    have hlo := he.lo
    have h2' : empty.length + (m + 1) ≤ n + 3 := h2.elim id (fun h => by omega)
    obtain ⟨k, hk, hr⟩ := he.rep (empty.length - 1) (by omega) (by omega)
    have hm := join_makes hw ho most hr hr hr hr rfl rfl rfl (by rw [emptyQ_lv]; omega)
    have hsub : ∀ d j : Nat, (∃ i, Rep nodes (emptyQ (j + d)) i) → ∃ i, Rep nodes (emptyQ j) i := by
      intro d
      induction d with
      | zero => intro j h; exact h
      | succ d ih => intro j h; obtain ⟨i, k0, _, _, _, _, h0, _⟩ := h; exact ih j ⟨k0, h0⟩
    obtain ⟨i, hi'⟩ := hsub (n - (empty.length - 1 - 2 + 1)) (empty.length - 1 - 2 + 1) (by rw [show empty.length - 1 - 2 + 1 + (n - (empty.length - 1 - 2 + 1)) = n by omega]; exact hi)
    have hhad := hm.had i hi'
    unfold emptyGo
    simp only [hk]
    rw [hhad]
    simp only [if_pos]
    have he2 : EmQ nodes (empty ++ [(i : Int)]) := by
      refine ⟨by simp; omega, by simp; omega, fun j h3 h4 => ?_⟩
      by_cases hj : j < empty.length
      · obtain ⟨k', hk', hr'⟩ := he.rep j h3 hj
        refine ⟨k', ?_, hr'⟩
        rw [List.getD_eq_getElem?_getD, List.getElem?_append_left hj, ← List.getD_eq_getElem?_getD]; exact hk'
      · obtain rfl : j = empty.length := by simp at h4; omega
        refine ⟨i, ?_, ?_⟩
        · rw [List.getD_eq_getElem?_getD, List.getElem?_append_right (Nat.le_refl _)]; simp
        · rw [show empty.length - 2 = (empty.length - 1 - 2) + 1 by omega]; exact hi'
    exact emptyGo_had most n hn m nodes _ hw ho he2 (by simp; omega) (by simp; omega) hi
theorem emptyN_had {nodes : List Nd} {empty : List Int} (most : Int) (n : Nat) (hn : n ≤ 42) (hw : WF nodes) (ho : Once nodes) (he : EmQ nodes empty) (hi : ∃ i, Rep nodes (emptyQ n) i) : (emptyN nodes empty most ((n : Int) + 2)).1 = nodes ∧ (emptyN nodes empty most ((n : Int) + 2)).2.2.2 = 0 := by
  have h1 := he.lo
  have h2 := he.hi
  unfold emptyN
  rw [if_neg (by omega), if_neg (by omega), show ((n : Int) + 2).toNat = n + 2 by omega]
  by_cases h : n + 2 + 1 ≤ empty.length
  · exact emptyGo_had most n hn _ _ _ hw ho he (by omega) (by omega) hi
  · exact emptyGo_had most n hn _ _ _ hw ho he (by omega) (by omega) hi
theorem emptyGo_lim (most : Int) (lv : Int) : ∀ (m : Nat) (nodes : List Nd) (empty : List Int), (nodes.length : Int) ≤ most → ((emptyGo most lv m nodes empty).1.length : Int) ≤ most
  | 0, nodes, empty, h => h
  | m + 1, nodes, empty, h => by
    unfold emptyGo
    dsimp only
    split
    · exact emptyGo_lim most lv m _ _ (joinN_lim _ _ _ _ _ _ h)
    · exact joinN_lim _ _ _ _ _ _ h
theorem emptyN_lim (nodes : List Nd) (empty : List Int) (most lv : Int) (h : (nodes.length : Int) ≤ most) : ((emptyN nodes empty most lv).1.length : Int) ≤ most := by
  unfold emptyN
  split
  · exact h
  · split
    · exact h
    · exact emptyGo_lim _ _ _ _ _ h
theorem EmQ.emb (he : EmQ nodes empty) (hl : nodes.length < 4294967296) (h0 : ∀ i, i < 2 → 0 ≤ empty.getD i 0 ∧ empty.getD i 0 < 4294967296) : ∀ i, 0 ≤ empty.getD i 0 ∧ empty.getD i 0 < 4294967296 := by
  intro i
  by_cases h2 : i < 2
  · exact h0 i h2
  · by_cases hi : i < empty.length
    · obtain ⟨k, hk, hr⟩ := he.rep i (by omega) hi
      have := hr.lt
      omega
    · rw [List.getD_eq_getElem?_getD, List.getElem?_eq_none (by omega)]
      exact ⟨by decide, by decide⟩
theorem emptyGo_pre (most : Int) (lv : Int) : ∀ (m : Nat) (nodes : List Nd) (empty : List Int), ∃ l, (emptyGo most lv m nodes empty).2.1 = empty ++ l
  | 0, nodes, empty => ⟨[], by simp [emptyGo]⟩
  | m + 1, nodes, empty => by
    unfold emptyGo
    dsimp only
    split
    · obtain ⟨l, hl⟩ := emptyGo_pre most lv m _ _
      rw [hl]
      exact ⟨[_] ++ l, List.append_assoc _ _ _⟩
    · exact ⟨[], by simp⟩
theorem emptyN_pre (nodes : List Nd) (empty : List Int) (most lv : Int) : ∃ l, (emptyN nodes empty most lv).2.1 = empty ++ l := by
  unfold emptyN
  split
  · exact ⟨[], by simp⟩
  · split
    · exact ⟨[], by simp⟩
    · exact emptyGo_pre _ _ _ _ _
theorem tr_empty (h : Tr w0 w2 F p nodes empty most) (n : Nat) (hn : n ≤ 42) (hN : nodes.length < 536870800) :
    Calls Try.prog 55 #[.pointer (some ⟨p, 0, none⟩), .int .i64 ((n : Int) + 2)] w2 fun e w' => Gets w0 w2 F p nodes empty most (emptyQ n) 0 (∃ i, Rep nodes (emptyQ n) i) e w' := by
  refine (hold_empty h.hold h.el ((n : Int) + 2) h.emok (by omega)).mono fun e w' ⟨he, F', ho⟩ => ?_
  have hm := empty_makes most n hn h.wf h.once h.emq
  obtain ⟨l, hl, hll⟩ := hm.ext
  obtain ⟨pre, hpre⟩ := emptyN_pre nodes empty most ((n : Int) + 2)
  have hlo := h.emq.lo
  have hhi := hm.emq.hi
  refine ⟨F', _, _, _, _, he, ⟨⟨ho.hold, hm.wf, hm.emq, hm.emq.emb (by rw [hl, List.length_append]; omega) (fun i hi => ?_), emptyN_lim _ _ _ _ h.lim, Nat.le_trans h.el ho.keeps.size⟩, ho.old, ho.keeps, ⟨l, hl⟩, by rw [hpre]; simp⟩, by rw [hl, List.length_append]; omega, ?_, fun hi => ?_⟩
  · rw [hpre, List.getD_eq_getElem?_getD, List.getElem?_append_left (by omega), ← List.getD_eq_getElem?_getD]
    exact h.emb i
  · by_cases h0 : (emptyN nodes empty most ((n : Int) + 2)).2.2.2 = 0
    · exact .inl ⟨h0, hm.good h0⟩
    · obtain ⟨h1, h2, h3⟩ := hm.bad h0
      exact .inr ⟨h1, h2, h3⟩
  · exact emptyN_had most n hn h.wf h.once h.emq hi
theorem tr_new (most : Int) (hm : most ≤ 9223372036854775807) (w : World) :
    Calls Try.prog 36 #[.int .i64 most] w fun e w' => ∃ p F, e = .returned (.pointer (some ⟨p, 0, none⟩)) ∧ Tr w w' F p [nd0] [0, 0, 0] (max most 64) ∧ Below w.heap.size w w' :=
  (hold_new most hm w).mono fun _ _ ⟨p, F, he, hh, hb⟩ => ⟨p, F, he, ⟨hh, fun i hi => ⟨.leaf 0, by
    obtain rfl : i = 0 := by simpa using hi
    exact ⟨rfl, by decide⟩⟩, emq0, (emOk0 [nd0]).bd, by simp; omega, hb.size⟩, hb⟩
end
end Go.Proofs.Ytpmipllohiiocaa.ar
