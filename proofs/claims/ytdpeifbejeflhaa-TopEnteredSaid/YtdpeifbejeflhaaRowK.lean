/-
  Arguments opened to cells: structs of structs, slices of structs.
-/
import Derived.Test.YtdpeifbejeflhaaRow
import Derived.Deep.Slices
import Derived.WideKeyArgs
namespace Go.Proofs.Ytdpeifbejeflhaa
open Go.ChangeShapes Go.WideShapes Go.ChangeAt Go.RowKit Go.Deep ZW

/-- The parts of a type that are no structs: each with its place. -/
def leafs (P : Program) : Nat → TypeId → List (TypeId × Nat)
  | 0, t => [(t, 0)]
  | n + 1, t => match P.underlying t with
    | some (.struct fs) => fs.toList.flatMap fun f => (leafs P n f.type).map fun x => (x.1, f.offset + x.2)
    | _ => [(t, 0)]

theorem prefix_drop {α : Type} {l m : List α} (h : l <+: m) (n : Nat) : l.drop n <+: m.drop n := by
  obtain ⟨r, rfl⟩ := h
  rw [List.drop_append]
  exact ⟨_, rfl⟩

section
variable {H : Type} {enc : TypeId × Value → H} {P : Program} {w : World} {base : Nat} {spare : Nat → Bool} {held : Bool}

theorem leaf_trod : ∀ (n : Nat) {t : TypeId} {fuel : Nat} {cs : List Value} {x : DataW H × List MemPlace}, DataW.trod enc P w base spare held fuel t cs = some x →
    ∀ p ∈ leafs P n t, ∃ (l : List Value) (k : Nat) (y : DataW H × List MemPlace), l <+: cs.drop p.2 ∧ DataW.trod enc P w base spare held k p.1 l = some y
  | 0, t, fuel, cs, x, h, p, hp => by
    simp only [leafs, List.mem_singleton] at hp
    subst hp
    exact ⟨cs, fuel, x, by simp, h⟩
  | n + 1, t, fuel, cs, x, h, p, hp => by
    unfold leafs at hp
    split at hp
    · rename_i fs hs
      obtain ⟨f, hf, hp⟩ := List.mem_flatMap.1 hp
      obtain ⟨q, hq, rfl⟩ := List.mem_map.1 hp
      obtain ⟨xs, k, _, _, _, hlen, hg⟩ := DataW.trod_struct hs h
      obtain ⟨j, hj, rfl⟩ := List.mem_iff_getElem.1 hf
      have hj' : j < fs.size := by simpa using hj
      have h1 := hg j fs[j] (Array.getElem?_eq_getElem hj')
      rw [List.getElem?_eq_getElem (by omega)] at h1
      obtain ⟨l, k', y, hl, hy⟩ := leaf_trod n h1 q (by simpa using hq)
      refine ⟨l, k', y, ?_, hy⟩
      have h2 := List.IsPrefix.trans hl (prefix_drop (List.take_prefix _ _) q.2)
      rw [List.drop_drop] at h2
      simpa using h2
    · simp only [List.mem_singleton] at hp
      subst hp
      exact ⟨cs, fuel, x, by simp, h⟩

theorem pre_at {cs : List Value} {o : Nat} {v : Value} (h : [v] <+: cs.drop o) : cs[o]? = some v := by
  obtain ⟨r, hr⟩ := h
  have : (cs.drop o)[0]? = some v := by rw [← hr]; rfl
  simpa using this
theorem leaf_int {n fuel : Nat} {t u : TypeId} {o : Nat} {k : IntKind} {cs : List Value} {x : DataW H × List MemPlace} (h : DataW.trod enc P w base spare held fuel t cs = some x) (hp : (leafs P n t).elem (u, o) = true) (hu : P.underlying u = some (.int k)) :
    ∃ i, cs[o]? = some (.int k i) ∧ (Lit.int k i).wf = true := by
  obtain ⟨l, k', y, hl, hy⟩ := leaf_trod n h (u, o) (List.elem_iff.1 hp)
  obtain ⟨i, rfl, _, hw⟩ := DataW.trod_int hu hy
  exact ⟨i, pre_at hl, hw⟩
theorem leaf_bool {n fuel : Nat} {t u : TypeId} {o : Nat} {cs : List Value} {x : DataW H × List MemPlace} (h : DataW.trod enc P w base spare held fuel t cs = some x) (hp : (leafs P n t).elem (u, o) = true) (hu : P.underlying u = some .bool) :
    ∃ b, cs[o]? = some (.bool b) := by
  obtain ⟨l, k', y, hl, hy⟩ := leaf_trod n h (u, o) (List.elem_iff.1 hp)
  obtain ⟨b, rfl, _⟩ := DataW.trod_bool hu hy
  exact ⟨b, pre_at hl⟩

/-- A slice of elements that are told by cells. -/
theorem open_rows {α : Type} (f : α → List Value) (d : α) {Q : α → Prop} {sz : Nat} (hsz : ∀ x, (f x).length = sz) (hpos : 0 < sz) {t e : TypeId} {fuel : Nat} {cs : List Value} {x : DataW H × List MemPlace}
    (ht : P.underlying t = some (.slice e)) (hC : P.cellsOf e = sz) (hel : ∀ (n : Nat) (c : List Value) (y : DataW H × List MemPlace), DataW.trod enc P w base spare held n e c = some y → ∃ x, c = f x ∧ Q x)
    (h : DataW.trod enc P w base spare held fuel t cs = some x) :
    ∃ (a : Option Addr) (len cap : Nat) (l : List α), cs = [.slice a len cap] ∧ l.length = len ∧ len ≤ cap ∧ cap ≤ maxLen ∧ SlE w a len sz (fun i => f (l.getD i d)) ∧ ∀ x ∈ l, Q x := by
  rcases open_slice ht h with ⟨rfl, _⟩ | ⟨a, len, cap, m, n, D, Pl, rfl, hb, hl, hm, hmm, _, hi⟩
  · exact ⟨none, 0, 0, [], rfl, rfl, Nat.le_refl _, by decide, SlE.nil, by simp⟩
  · have hlm : len ≤ m := by rw [hmm]; split <;> omega
    have hx : ∀ i, i < len → ∃ x : α, Q x ∧ ∀ j, j < sz → w.cell? (a.add (i * sz + j)) = (f x)[j]? := fun i hil => by
      obtain ⟨cs', hc, ht'⟩ := hi i (by omega)
      rw [hC] at hc
      obtain ⟨x, rfl, hQ⟩ := hel _ _ _ ht'
      obtain ⟨_, hcl, hat⟩ := World.cells?_some hc
      exact ⟨x, hQ, fun j hj => by rw [← hat j hj, Deep.add_add]⟩
    have hspot : 0 < len → a = ⟨a.block, a.off, none⟩ := fun h0 => by
      obtain ⟨x, _, hc⟩ := hx 0 h0
      have h1 := hc 0 hpos
      rw [List.getElem?_eq_getElem (by rw [hsz]; exact hpos)] at h1
      obtain ⟨b, o, s⟩ := a
      have hs : s = none := by simpa [Addr.add] using World.cell?_spot h1
      rw [hs]
    have hlist : ∀ k, k ≤ len → ∃ l : List α, l.length = k ∧ ∀ i, i < k → Q (l.getD i d) ∧ ∀ j, j < sz → w.cell? (a.add (i * sz + j)) = (f (l.getD i d))[j]? := fun k => by
      induction k with
      | zero => exact fun _ => ⟨[], rfl, fun i hi => absurd hi (by omega)⟩
      | succ k ih =>
        intro hk
        obtain ⟨l, hl, hall⟩ := ih (by omega)
        obtain ⟨x, hQ, hc⟩ := hx k (by omega)
        refine ⟨l ++ [x], by simp [hl], fun i hi => ?_⟩
        rcases Nat.lt_or_ge i k with h1 | h1
        · have e : (l ++ [x]).getD i d = l.getD i d := by
            simp [List.getD, List.getElem?_append_left (show i < l.length by omega)]
          rw [e]; exact hall i h1
        · obtain rfl : i = k := by omega
          have e : (l ++ [x]).getD i d = x := by simp [List.getD, ← hl]
          rw [e]; exact ⟨hQ, hc⟩
    obtain ⟨l, hll, hall⟩ := hlist len (Nat.le_refl _)
    refine ⟨some a, len, cap, l, rfl, hll, hl, hm, ⟨fun i _ => hsz _, fun h0 => by rw [hspot h0]; rfl, fun i j hi hj => ?_⟩, fun x hx => ?_⟩
    · have h1 := (hall i hi).2 j hj
      rw [← h1, hspot (by omega)]
      simp only [Addr.add, sblk, soff, Option.getD_some]
      rw [Nat.add_assoc]
      split
      · rename_i hz; rw [hz]; rfl
      · rfl
    · obtain ⟨i, hi, rfl⟩ := List.mem_iff_getElem.1 hx
      have := (hall i (by omega)).1
      rwa [← List.getElem_eq_getD (h := hi)] at this
end
end Go.Proofs.Ytdpeifbejeflhaa
