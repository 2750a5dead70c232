/- A map from leaves to their nodes' numbers, as ArenaMany keeps it: plain facts. -/
import Derived.Test.YtbeijhjafmalgaaArHold
import Derived.Maps.OwnSet
namespace Go.Proofs.Ytbeijhjafmalgaa.ar
open Go.RowKit Go.Proofs.Ytbeijhjafmalgaa.lb Go.Maps

def lk (f : Nat) : Lit := .int .u32 f
def lv (i : Int) : DataW Unit := .lit (.int .u32 i)
theorem lk_key (f : Nat) : WideAt.IsKeyLit (lk f) := trivial
theorem lk_inj {f g : Nat} (h : lk f = lk g) : f = g := by
  unfold lk at h
  injection h with h1 h2
  omega
theorem leafKey_inj {f g : Nat} (h : leafKey f = leafKey g) : f = g := by
  unfold leafKey at h
  injection h with h1 h2
  omega
def lnd (f : Nat) : Nd := ⟨leafKey f, (popN 32 f : Nat)⟩
/-- the nodes are leaves, each once; the map has each one's number -/
structure Seen (nodes : List Nd) (D : DataW Unit) : Prop where
  tidy : Tidy D
  size : size D = nodes.length
  once : ∀ (i j : Nat) (x y : Nd), nodes[i]? = some x → nodes[j]? = some y → x.key = y.key → i = j
  leaf : ∀ (i : Nat) (x : Nd), nodes[i]? = some x → ∃ f : Nat, f < 4294967296 ∧ x = lnd f
  here : ∀ (i f : Nat), nodes[i]? = some (lnd f) → has D (lk f) = true ∧ ∀ z, D.atKey (lk f) z = lv i
  back : ∀ l, has D l = true → ∃ i f : Nat, l = lk f ∧ nodes[i]? = some (lnd f)
theorem seen_zero : Seen [nd0] ((.map [] : DataW Unit).put (lk 0) (lv 0)) := by
  have hm : IsMap (.map [] : DataW Unit) := isMap_empty
  have e : nd0 = lnd 0 := by unfold nd0 lnd; rw [popN_zero]; rfl
  refine ⟨tidy_empty.put (lk_key 0) _, ?_, ?_, ?_, ?_, ?_⟩
  · rw [size_put tidy_empty]; rfl
  · intro i j x y hx hy _
    have h1 := (List.getElem?_eq_some_iff.1 hx).1
    have h2 := (List.getElem?_eq_some_iff.1 hy).1
    simp at h1 h2
    omega
  · intro i x hx
    have h1 := (List.getElem?_eq_some_iff.1 hx).1
    simp at h1
    subst h1
    exact ⟨0, by omega, (Option.some.inj hx).symm.trans e⟩
  · intro i f hx
    have h1 := (List.getElem?_eq_some_iff.1 hx).1
    simp at h1
    subst h1
    have : nd0 = lnd f := Option.some.inj hx
    have hf : f = 0 := leafKey_inj (congrArg Nd.key (this.symm.trans e))
    subst hf
    exact ⟨has_put_same hm (lk_key 0) _, fun z => atKey_put_same hm (lk_key 0) _ z⟩
  · intro l hl
    by_cases h : l = lk 0
    · exact ⟨0, 0, h, by rw [e]; rfl⟩
    · rw [has_put_other h] at hl
      cases hl
theorem lnd_min (f : Nat) : (⟨leafKey f, min ((popN 32 f : Nat) : Int) 4611686018427387904⟩ : Nd) = lnd f := by
  have := popN_le 32 f
  have e : min ((popN 32 f : Nat) : Int) 4611686018427387904 = (popN 32 f : Nat) := by omega
  rw [e]
  rfl
structure SeenStep (nodes : List Nd) (D : DataW Unit) (f : Nat) (r : List Nd × Int × Int) : Prop where
  code : r.2.2 = 0
  ix0 : 0 ≤ r.2.1
  ix1 : r.2.1 ≤ nodes.length
  again : addN r.1 1000 (leafKey f) (popN 32 f : Nat) = (r.1, r.2.1, 0)
  bits : bitsAt r.1 r.2.1 = f
  was : ∀ z, has D (lk f) = true → D.atKey (lk f) z = lv r.2.1
  next : Seen r.1 (D.put (lk f) (lv r.2.1))
  len : r.1.length ≤ nodes.length + 1
theorem seen_step {nodes : List Nd} {D : DataW Unit} (h : Seen nodes D) (f : Nat) (hf : f < 4294967296) (hn : nodes.length < 1000) : SeenStep nodes D f (addN nodes 1000 (leafKey f) (popN 32 f : Nat)) := by
  have hm := h.tidy.isMap
  cases hi : idx nodes (leafKey f) with
  | some i =>
    have hr : addN nodes 1000 (leafKey f) (popN 32 f : Nat) = (nodes, (i : Int), 0) := by unfold addN; rw [hi]
    rw [hr]
    obtain ⟨x, hx, hk⟩ := idx_some hi
    obtain ⟨g, hg, rfl⟩ := h.leaf i x hx
    obtain rfl := leafKey_inj hk
    have hil := (List.getElem?_eq_some_iff.1 hx).1
    obtain ⟨t1, t2⟩ := h.here i g hx
    refine ⟨rfl, by simp, by simp; omega, hr, (bitsAt_some (x := lnd g) (show nodes[(i : Int).toNat]? = some (lnd g) from hx)).trans rfl, fun z _ => t2 z, ?_, by simp⟩
    refine ⟨h.tidy.put (lk_key g) _, by rw [size_put h.tidy, if_pos t1]; exact h.size, h.once, h.leaf, ?_, ?_⟩
    · intro j e hj
      by_cases he : e = g
      · subst he
        obtain rfl := h.once i j _ _ hx hj rfl
        exact ⟨has_put_same hm (lk_key e) _, fun z => atKey_put_same hm (lk_key e) _ z⟩
      · have hne : lk e ≠ lk g := fun hh => he (lk_inj hh)
        rw [has_put_other hne]
        exact ⟨(h.here j e hj).1, fun z => by rw [atKey_put_other hne]; exact (h.here j e hj).2 z⟩
    · intro l hl
      by_cases hlg : l = lk g
      · exact ⟨i, g, hlg, hx⟩
      · rw [has_put_other hlg] at hl
        exact h.back l hl
  | none =>
    have hr : addN nodes 1000 (leafKey f) (popN 32 f : Nat) = (nodes ++ [lnd f], (nodes.length : Int), 0) := by
      unfold addN; rw [hi]; dsimp only; rw [if_neg (by omega), lnd_min]
    rw [hr]
    have hno := idx_none hi
    have hnh : has D (lk f) = false := by
      cases hh : has D (lk f) with
      | false => rfl
      | true =>
        obtain ⟨i, g, hg, hx⟩ := h.back _ hh
        obtain rfl := lk_inj hg
        exact absurd rfl (hno i _ hx)
    have honce : ∀ (i j : Nat) (x y : Nd), (nodes ++ [lnd f])[i]? = some x → (nodes ++ [lnd f])[j]? = some y → x.key = y.key → i = j := by
      intro i j x y hx hy hk
      rw [List.getElem?_append] at hx hy
      split at hx
      · split at hy
        · exact h.once i j x y hx hy hk
        · rw [List.getElem?_singleton] at hy
          split at hy
          · obtain rfl := Option.some.inj hy; exact absurd hk (hno i x hx)
          · cases hy
      · split at hy
        · rw [List.getElem?_singleton] at hx
          split at hx
          · obtain rfl := Option.some.inj hx; exact absurd hk.symm (hno j y hy)
          · cases hx
        · rw [List.getElem?_singleton] at hx hy
          split at hx
          · split at hy
            · omega
            · cases hy
          · cases hx
    have hlast : (nodes ++ [lnd f])[nodes.length]? = some (lnd f) := by simp
    refine ⟨rfl, by simp, by simp, ?_, (bitsAt_some (x := lnd f) (show (nodes ++ [lnd f])[((nodes.length : Nat) : Int).toNat]? = some (lnd f) from hlast)).trans rfl, (fun z hh => absurd (hnh.symm.trans hh) (by decide)), ?_, by simp⟩
    · dsimp only
      unfold addN
      rw [idx_mk (k := leafKey f) honce hlast rfl]
    · refine ⟨h.tidy.put (lk_key f) _, by rw [size_put h.tidy, hnh]; simp [h.size], honce, ?_, ?_, ?_⟩
      · intro i x hx
        rw [List.getElem?_append] at hx
        split at hx
        · exact h.leaf i x hx
        · rw [List.getElem?_singleton] at hx
          split at hx
          · exact ⟨f, hf, (Option.some.inj hx).symm⟩
          · cases hx
      · intro j e hj
        by_cases he : e = f
        · subst he
          obtain rfl := honce _ j _ _ hlast hj rfl
          exact ⟨has_put_same hm (lk_key e) _, fun z => atKey_put_same hm (lk_key e) _ z⟩
        · have hne : lk e ≠ lk f := fun hh => he (lk_inj hh)
          rw [has_put_other hne]
          have hj' : nodes[j]? = some (lnd e) := by
            rw [List.getElem?_append] at hj
            split at hj
            · exact hj
            · rw [List.getElem?_singleton] at hj
              split at hj
              · exact absurd (leafKey_inj (congrArg Nd.key (Option.some.inj hj))).symm he
              · cases hj
          exact ⟨(h.here j e hj').1, fun z => by rw [atKey_put_other hne]; exact (h.here j e hj').2 z⟩
      · intro l hl
        by_cases hlg : l = lk f
        · exact ⟨nodes.length, f, hlg, hlast⟩
        · rw [has_put_other hlg] at hl
          obtain ⟨i, g, hg, hx⟩ := h.back l hl
          exact ⟨i, g, hg, by rw [List.getElem?_append_left ((List.getElem?_eq_some_iff.1 hx).1)]; exact hx⟩
end Go.Proofs.Ytbeijhjafmalgaa.ar
