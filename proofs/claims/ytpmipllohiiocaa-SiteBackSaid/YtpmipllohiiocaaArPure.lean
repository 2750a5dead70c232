/- The arena as plain data: nodes, each once, found by probing slots (open addressing); no program in sight. -/
import Derived.Test.YtpmipllohiiocaaRows
namespace Go.Proofs.Ytpmipllohiiocaa.ar

/-- what a node is found by -/
structure Key where
  level : Int
  bits : Int
  k0 : Int
  k1 : Int
  k2 : Int
  k3 : Int
theorem Key.eq_iff (a b : Key) : a = b ↔ (a.level = b.level ∧ a.bits = b.bits ∧ a.k0 = b.k0 ∧ a.k1 = b.k1 ∧ a.k2 = b.k2 ∧ a.k3 = b.k3) := by
  cases a; cases b; simp
instance : DecidableEq Key := fun a b => decidable_of_iff _ (Key.eq_iff a b).symm
/-- a node -/
structure Nd where
  key : Key
  count : Int

section slots
variable {st : Key → Nat → Nat}
/-- the slots have the first m of the nodes, each where probing finds it -/
structure Slotted (st : Key → Nat → Nat) (nodes : List Nd) (m : Nat) (slots : List Nat) : Prop where
  le : m ≤ nodes.length
  free : slots.count 0 + m = slots.length
  room : m < slots.length
  val : ∀ x ∈ slots, x ≤ m
  once : ∀ (i j : Nat) (x y : Nd), nodes[i]? = some x → nodes[j]? = some y → x.key = y.key → i = j
  find : ∀ (i : Nat) (nd : Nd), i < m → nodes[i]? = some nd → ∃ d, slots[(st nd.key slots.length + d) % slots.length]? = some (i + 1) ∧
    ∀ d', d' < d → slots[(st nd.key slots.length + d') % slots.length]? ≠ some 0
/-- d places were looked at from the key's first one on: another node lies in each -/
def Probing (st : Key → Nat → Nat) (nodes : List Nd) (slots : List Nat) (k : Key) (d : Nat) : Prop :=
  ∀ d', d' < d → ∃ x, slots[(st k slots.length + d') % slots.length]? = some x ∧ x ≠ 0 ∧ ∀ nd, nodes[x - 1]? = some nd → nd.key ≠ k

theorem probing_zero (nodes : List Nd) (slots : List Nat) (k : Key) : Probing st nodes slots k 0 := fun d' h => by omega
theorem probing_step {nodes : List Nd} {slots : List Nat} {k : Key} {d x : Nat} (h : Probing st nodes slots k d)
    (hx : slots[(st k slots.length + d) % slots.length]? = some x) (h0 : x ≠ 0) (hk : ∀ nd, nodes[x - 1]? = some nd → nd.key ≠ k) : Probing st nodes slots k (d + 1) := by
  intro d' hd
  by_cases e : d' = d
  · subst e; exact ⟨x, hx, h0, hk⟩
  · exact h d' (by omega)
theorem exists_free {nodes : List Nd} {m : Nat} {slots : List Nat} (h : Slotted st nodes m slots) : ∃ j, j < slots.length ∧ slots[j]? = some 0 := by
  have hc : 0 < slots.count 0 := by have := h.free; have := h.room; omega
  obtain ⟨j, hj, e⟩ := List.getElem_of_mem (List.count_pos_iff.1 hc)
  exact ⟨j, hj, by rw [List.getElem?_eq_getElem hj, e]⟩
/-- probing ends within one turn -/
theorem probing_lt {nodes : List Nd} {m : Nat} {slots : List Nat} {k : Key} {d : Nat} (h : Slotted st nodes m slots) (hs : st k slots.length < slots.length) (hp : Probing st nodes slots k d) : d < slots.length := by
  obtain ⟨j, hj, e⟩ := exists_free h
  by_cases hd : d < slots.length
  · exact hd
  · exfalso
    by_cases hle : st k slots.length ≤ j
    · obtain ⟨x, hx, h0, _⟩ := hp (j - st k slots.length) (by omega)
      rw [show st k slots.length + (j - st k slots.length) = j by omega, Nat.mod_eq_of_lt hj, e] at hx
      exact h0 (Option.some.inj hx).symm
    · obtain ⟨x, hx, h0, _⟩ := hp (j + slots.length - st k slots.length) (by omega)
      rw [show st k slots.length + (j + slots.length - st k slots.length) = j + slots.length by omega, Nat.add_mod_right, Nat.mod_eq_of_lt hj, e] at hx
      exact h0 (Option.some.inj hx).symm
/-- at a free place behind it: no such node -/
theorem probing_none {nodes : List Nd} {m : Nat} {slots : List Nat} {k : Key} {d : Nat} (h : Slotted st nodes m slots) (hp : Probing st nodes slots k d)
    (h0 : slots[(st k slots.length + d) % slots.length]? = some 0) : ∀ (i : Nat) (nd : Nd), i < m → nodes[i]? = some nd → nd.key ≠ k := by
  intro i nd hi hnd hk
  obtain ⟨e, he, hbe⟩ := h.find i nd hi hnd
  rw [hk] at he hbe
  by_cases hlt : e < d
  · obtain ⟨x, hx, hx0, hxk⟩ := hp e hlt
    rw [he] at hx
    have hx' : i + 1 = x := Option.some.inj hx
    exact hxk nd (by rw [← hx']; simpa using hnd) hk
  · by_cases heq : e = d
    · subst heq
      rw [h0] at he
      have := Option.some.inj he
      omega
    · exact hbe d (by omega) h0
theorem next_place (s d n : Nat) : ((s + d) % n + 1) % n = (s + (d + 1)) % n := by rw [Nat.mod_add_mod, Nat.add_assoc]
/-- the next node laid into the free place -/
theorem slotted_insert {nodes : List Nd} {m : Nat} {slots : List Nat} {nd : Nd} {d : Nat} (h : Slotted st nodes m slots) (hm : nodes[m]? = some nd)
    (hp : Probing st nodes slots nd.key d) (hpos : 0 < slots.length)
    (h0 : slots[(st nd.key slots.length + d) % slots.length]? = some 0) (hroom : m + 1 < slots.length) :
    Slotted st nodes (m + 1) (slots.set ((st nd.key slots.length + d) % slots.length) (m + 1)) := by
  have hat : (st nd.key slots.length + d) % slots.length < slots.length := Nat.mod_lt _ hpos
  have hlm : m < nodes.length := (List.getElem?_eq_some_iff.1 hm).1
  have hl : (slots.set ((st nd.key slots.length + d) % slots.length) (m + 1)).length = slots.length := List.length_set
  have hget : slots[(st nd.key slots.length + d) % slots.length] = 0 := (List.getElem?_eq_some_iff.1 h0).2
  refine ⟨by omega, ?_, by rw [hl]; omega, ?_, h.once, ?_⟩
  · rw [hl, List.count_set hat, hget]
    have hc : 0 < slots.count 0 := by have := h.free; have := h.room; omega
    have := h.free
    simp
    omega
  · intro x hx
    rcases List.mem_or_eq_of_mem_set hx with hx | rfl
    · have := h.val x hx; omega
    · exact Nat.le_refl _
  · intro i x hi hx
    rw [hl]
    by_cases e : i = m
    · subst e
      rw [hm] at hx
      obtain rfl := Option.some.inj hx
      refine ⟨d, by rw [List.getElem?_set_self hat], fun d' hd' => ?_⟩
      obtain ⟨y, hy, hy0, _⟩ := hp d' hd'
      rw [List.getElem?_set]
      split
      · simp
      · rw [hy]; intro e; exact hy0 (Option.some.inj e)
    · obtain ⟨f, hf, hbf⟩ := h.find i x (by omega) hx
      refine ⟨f, ?_, fun d' hd' => ?_⟩
      · rw [List.getElem?_set]
        split
        · rename_i e; rw [← e, h0] at hf; have := Option.some.inj hf; omega
        · exact hf
      · have := hbf d' hd'
        rw [List.getElem?_set]
        split
        · simp
        · exact this
/-- a node more, not yet in the slots -/
theorem slotted_append {nodes : List Nd} {slots : List Nat} {nd : Nd} (h : Slotted st nodes nodes.length slots) (hn : ∀ (i : Nat) (x : Nd), nodes[i]? = some x → x.key ≠ nd.key) :
    Slotted st (nodes ++ [nd]) nodes.length slots := by
  refine ⟨by simp, h.free, h.room, h.val, ?_, ?_⟩
  · intro i j x y hx hy e
    rw [List.getElem?_append] at hx hy
    split at hx
    · split at hy
      · exact h.once i j x y hx hy e
      · rename_i hi hj
        rw [List.getElem?_singleton] at hy
        split at hy
        · obtain rfl := Option.some.inj hy; exact absurd e (hn i x hx)
        · cases hy
    · split at hy
      · rename_i hi hj
        rw [List.getElem?_singleton] at hx
        split at hx
        · obtain rfl := Option.some.inj hx; exact absurd e.symm (hn j y hy)
        · cases hx
      · rename_i hi hj
        rw [List.getElem?_singleton] at hx hy
        split at hx
        · split at hy
          · omega
          · cases hy
        · cases hx
  · intro i x hi hx
    rw [List.getElem?_append_left hi] at hx
    exact h.find i x hi hx
theorem slotted_zeros {nodes : List Nd} {n : Nat} (hn : 0 < n) (once : ∀ (i j : Nat) (x y : Nd), nodes[i]? = some x → nodes[j]? = some y → x.key = y.key → i = j) :
    Slotted st nodes 0 (List.replicate n 0) := by
  refine ⟨by omega, by simp, by simpa using hn, ?_, once, fun i _ hi => by omega⟩
  intro x hx
  rw [List.mem_replicate] at hx
  omega
end slots

/-- where a key's node is -/
def idx (nodes : List Nd) (k : Key) : Option Nat := nodes.findIdx? (fun x => decide (x.key = k))
theorem idx_some {nodes : List Nd} {k : Key} {i : Nat} (h : idx nodes k = some i) : ∃ x, nodes[i]? = some x ∧ x.key = k := by
  unfold idx at h
  rw [List.findIdx?_eq_some_iff_getElem] at h
  obtain ⟨hi, hk, _⟩ := h
  exact ⟨nodes[i], List.getElem?_eq_getElem hi, by simpa using hk⟩
theorem idx_none {nodes : List Nd} {k : Key} (h : idx nodes k = none) : ∀ (i : Nat) (x : Nd), nodes[i]? = some x → x.key ≠ k := by
  unfold idx at h
  rw [List.findIdx?_eq_none_iff] at h
  intro i x hx
  have := h x (List.mem_of_getElem? hx)
  simpa using this
theorem idx_none_mk {nodes : List Nd} {k : Key} (h : ∀ (i : Nat) (x : Nd), nodes[i]? = some x → x.key ≠ k) : idx nodes k = none := by
  unfold idx
  rw [List.findIdx?_eq_none_iff]
  intro x hx
  obtain ⟨i, hi, rfl⟩ := List.getElem_of_mem hx
  simpa using h i _ (List.getElem?_eq_getElem hi)
theorem idx_mk {nodes : List Nd} {k : Key} {i : Nat} {x : Nd} (once : ∀ (i j : Nat) (x y : Nd), nodes[i]? = some x → nodes[j]? = some y → x.key = y.key → i = j) (hx : nodes[i]? = some x) (hk : x.key = k) : idx nodes k = some i := by
  cases h : idx nodes k with
  | none => exact absurd hk (idx_none h i x hx)
  | some j =>
    obtain ⟨y, hy, e⟩ := idx_some h
    rw [once j i y x hy hx (by rw [e, hk])]

/-- a node found, or made: the nodes behind it, its number, the code -/
def addN (nodes : List Nd) (most : Int) (k : Key) (c : Int) : List Nd × Int × Int :=
  match idx nodes k with
  | some i => (nodes, (i : Int), 0)
  | none => if most ≤ (nodes.length : Int) then (nodes, 0, 8) else (nodes ++ [⟨k, min c 4611686018427387904⟩], (nodes.length : Int), 0)
end Go.Proofs.Ytpmipllohiiocaa.ar
