/-
  Plain law: the places on the plate that the document tries are those that the program tells.
-/
import Derived.Test.YtlcdohhhhlhpmaaKd
import Derived.Test.YtlcdohhhhlhpmaaIa
namespace Go.Proofs.Ytlcdohhhhlhpmaa
open ZW

theorem hull_between {l m : List Int} (h1 : ∀ x ∈ l, x ∈ m) (h2 : ∀ x ∈ m, ∃ a ∈ l, ∃ b ∈ l, a ≤ x ∧ x ≤ b) : hullE m = hullE l := by
  refine (Hull.uniq (hullE_hull m) ?_)
  rcases hullE_hull l with ⟨e, h⟩ | ⟨h3, h4, h5, h6⟩
  · refine .inl ⟨e, fun x hx => ?_⟩
    obtain ⟨a, ha, _⟩ := h2 x hx
    exact h a ha
  · refine .inr ⟨h3, h1 _ h4, h1 _ h5, fun x hx => ?_⟩
    obtain ⟨a, ha, b, hb, h7, h8⟩ := h2 x hx
    have := h6 a ha
    have := h6 b hb
    omega
/-- A place of the plate can be where a goal is, with a corner. -/
def inF (c : Int × Int) (goal s : Int) (x : Nat) : Bool := decide (c.1 ≤ goal - s * (x : Int) / 1000 ∧ goal - s * (x : Int) / 1000 ≤ c.2)
def filX (c : Int × Int) (goal s : Int) (n : Nat) : List Int := ((List.range n).filter (inF c goal s)).map fun (x : Nat) => (x : Int)
theorem filX_mem {c : Int × Int} {goal s : Int} {n : Nat} {v : Int} : v ∈ filX c goal s n ↔ ∃ x : Nat, x < n ∧ inF c goal s x = true ∧ v = (x : Int) := by
  unfold filX
  simp only [List.mem_map, List.mem_filter, List.mem_range]
  constructor
  · rintro ⟨x, ⟨h1, h2⟩, rfl⟩; exact ⟨x, h1, h2, rfl⟩
  · rintro ⟨x, h1, h2, rfl⟩; exact ⟨x, ⟨h1, h2⟩, rfl⟩
theorem find_iff {c : Int × Int} {goal s : Int} (hs : 1 ≤ s) {x : Nat} (hx : x ≤ 32768) : inF c goal s x = true ↔ ¬ (goal - c.1 < 0) ∧ (1000 * max 0 (goal - c.2) + s - 1) / s ≤ (x : Int) ∧ (x : Int) ≤ min 32768 ((1000 * (goal - c.1 + 1) - 1) / s) := by
  have hsx : 0 ≤ s * (x : Int) := Int.mul_nonneg (by omega) (by omega)
  have hd := Int.mul_ediv_add_emod (s * (x : Int)) 1000
  have hm := Int.emod_lt_of_pos (s * (x : Int)) (show (0 : Int) < 1000 by decide)
  have hm0 := Int.emod_nonneg (s * (x : Int)) (show (1000 : Int) ≠ 0 by decide)
  obtain ⟨q, hq⟩ : ∃ q, q = s * (x : Int) / 1000 := ⟨_, rfl⟩
  unfold inF
  rw [decide_eq_true_eq]
  rw [← hq] at hd ⊢
  constructor
  · rintro ⟨h1, h2⟩
    have a := ceil_le (a := 1000 * max 0 (goal - c.2)) (s := s) (m := (x : Int)) (by omega) (by omega)
    have b := le_floor (a := 1000 * (goal - c.1 + 1) - 1) (s := s) (m := (x : Int)) (by omega) (by omega)
    exact ⟨by omega, a, by omega⟩
  · rintro ⟨h0, h1, h2⟩
    have a : 1000 * max 0 (goal - c.2) ≤ s * (x : Int) := by
      have h3 : (1000 * max 0 (goal - c.2) + s - 1) / s < (x : Int) + 1 := by omega
      have h4 := Int.lt_mul_of_ediv_lt (by omega) h3
      rw [Int.add_mul, Int.mul_comm (x : Int) s] at h4
      omega
    have b : s * (x : Int) ≤ 1000 * (goal - c.1 + 1) - 1 := by
      have h3 : (x : Int) ≤ (1000 * (goal - c.1 + 1) - 1) / s := by omega
      have h4 := Int.mul_le_of_le_ediv (by omega) h3
      rw [Int.mul_comm (x : Int) s] at h4
      exact h4
    omega
theorem findC_in {c : Int × Int} {goal s : Int} (hs : 1 ≤ s) {v : Int} (hv : v ∈ findC c goal s) : v ∈ filX c goal s 32769 := by
  unfold findC at hv
  split at hv
  · simp at hv
  · split at hv
    · rename_i h0 h1
      have hn : 0 ≤ (1000 * max 0 (goal - c.2) + s - 1) / s := Int.ediv_nonneg (by omega) (by omega)
      simp only [List.mem_cons, List.not_mem_nil, or_false] at hv
      obtain ⟨x, hx⟩ : ∃ x : Nat, v = (x : Int) := ⟨v.toNat, by omega⟩
      refine filX_mem.2 ⟨x, by omega, (find_iff hs (by omega)).2 ⟨h0, by omega, by omega⟩, hx⟩
    · simp at hv
theorem findC_of {c : Int × Int} {goal s : Int} (hs : 1 ≤ s) {v : Int} (hv : v ∈ filX c goal s 32769) : ∃ a ∈ findC c goal s, ∃ b ∈ findC c goal s, a ≤ v ∧ v ≤ b := by
  obtain ⟨x, hx, h1, rfl⟩ := filX_mem.1 hv
  obtain ⟨h0, h2, h3⟩ := (find_iff hs (by omega)).1 h1
  have e : findC c goal s = [(1000 * max 0 (goal - c.2) + s - 1) / s, min 32768 ((1000 * (goal - c.1 + 1) - 1) / s)] := by
    unfold findC
    rw [if_neg h0, if_pos (by omega)]
  rw [e]
  exact ⟨_, List.mem_cons_self, _, List.mem_cons_of_mem _ List.mem_cons_self, h2, h3⟩
/-- All places that are tried tell what the program tells. -/
theorem find_doc {p : Plt} (hp : PltOk p) (d : Bool) (goal : Int) : hullE ((scalesP p (knownP p)).flatMap fun s => filX (cornP p d s (knownP p)) goal s 32769) = findH p d goal := by
  unfold findH findQ
  refine hull_between (fun v hv => ?_) (fun v hv => ?_)
  · obtain ⟨s, hs, hv⟩ := List.mem_flatMap.1 hv
    exact List.mem_flatMap.2 ⟨s, hs, findC_in (mem_sc hp hs).1 hv⟩
  · obtain ⟨s, hs, hv⟩ := List.mem_flatMap.1 hv
    obtain ⟨a, ha, b, hb, h⟩ := findC_of (mem_sc hp hs).1 hv
    exact ⟨a, List.mem_flatMap.2 ⟨s, hs, ha⟩, b, List.mem_flatMap.2 ⟨s, hs, hb⟩, h⟩
end Go.Proofs.Ytlcdohhhhlhpmaa
