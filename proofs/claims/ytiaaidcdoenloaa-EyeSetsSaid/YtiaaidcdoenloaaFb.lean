/-
  Plain law of links: how low bounds can be while they are made closer.
-/
import Derived.Test.YtiaaidcdoenloaaFw
namespace ZW
section
variable {F : Int} {N : Nat}
def FBd (F : Int) (N : Nat) (A : Int) (b : FMat) : Prop := ∀ i k, i < N → k < N → -A ≤ b i k ∧ b i k ≤ F
/-- In a round: what has been gone through (rows less than r, and of row r the first s) and what has not. -/
structure FRn (F : Int) (N : Nat) (j : Nat) (A : Int) (r s : Nat) (b : FMat) : Prop where
  all : ∀ i k, i < N → k < N → -(6 * A) ≤ b i k ∧ b i k ≤ F
  row : ∀ k, k < N → -(3 * A) ≤ b j k
  col : ∀ i, i < N → -(3 * A) ≤ b i j
  mid : -(2 * A) ≤ b j j
  old : ∀ i k, i < N → k < N → (r < i ∨ r = i ∧ s ≤ k) → -A ≤ b i k
theorem FRn.start {j : Nat} {A : Int} {b : FMat} (hA : 0 ≤ A) (hj : j < N) (h : FBd F N A b) : FRn F N j A 0 0 b :=
  ⟨fun i k hi hk => by have := h i k hi hk; omega, fun k hk => by have := h j k hj hk; omega, fun i hi => by have := h i j hi hj; omega, by have := h j j hj hj; omega, fun i k hi hk _ => (h i k hi hk).1⟩
theorem FRn.next {j : Nat} {A : Int} {r : Nat} {b : FMat} (h : FRn F N j A r N b) : FRn F N j A (r + 1) 0 b :=
  ⟨h.all, h.row, h.col, h.mid, fun i k hi hk hik => h.old i k hi hk (by omega)⟩
theorem FRn.step {j : Nat} {A : Int} {r s : Nat} {b : FMat} (_ : 0 ≤ A) (_ : j < N) (hr : r < N) (hs : s < N) (h : FRn F N j A r s b) : FRn F N j A r (s + 1) (fStep F j b r s) := by
  unfold fStep
  by_cases hc : b r j < F ∧ b j s < F
  · rw [if_pos hc]
    have h1 := h.all r s hr hs
    have h2 := h.row s hs
    have h3 := h.col r hr
    have h4 := h.mid
    have h5 := h.old r s hr hs (by omega)
    refine ⟨fun i k hi hk => ?_, fun k hk => ?_, fun i hi => ?_, ?_, fun i k hi hk hik => ?_⟩
    · have := h.all i k hi hk
      unfold fUpd; split <;> omega
    · have := h.row k hk
      unfold fUpd; split
      · rename_i he
        obtain ⟨rfl, rfl⟩ := he
        omega
      · omega
    · have := h.col i hi
      unfold fUpd; split
      · rename_i he
        obtain ⟨rfl, rfl⟩ := he
        omega
      · omega
    · unfold fUpd; split
      · rename_i he
        obtain ⟨rfl, rfl⟩ := he
        omega
      · omega
    · have := h.old i k hi hk (by omega)
      unfold fUpd; rw [if_neg (by omega)]; omega
  · rw [if_neg hc]
    exact ⟨h.all, h.row, h.col, h.mid, fun i k hi hk hik => h.old i k hi hk (by omega)⟩
theorem FRn.rowP {j : Nat} {A : Int} {r : Nat} {b : FMat} (hA : 0 ≤ A) (hj : j < N) (hr : r < N) (h : FRn F N j A r 0 b) : ∀ n, n ≤ N → FRn F N j A r n (fRow F j b r n)
  | 0, _ => h
  | n + 1, hn => by rw [fRow_succ]; exact (FRn.rowP hA hj hr h n (by omega)).step hA hj hr (by omega)
theorem FRn.roundP {j : Nat} {A : Int} {b : FMat} (hA : 0 ≤ A) (hj : j < N) (h : FBd F N A b) : ∀ n, n ≤ N → FRn F N j A n 0 (fRound F N b j n)
  | 0, _ => .start hA hj h
  | n + 1, hn => by rw [fRound_succ]; exact ((FRn.roundP hA hj h n (by omega)).rowP hA hj (by omega) N (Nat.le_refl _)).next
theorem FBd.roundP {j : Nat} {A : Int} {b : FMat} (hA : 0 ≤ A) (hj : j < N) (h : FBd F N A b) : FBd F N (6 * A) (fRound F N b j N) := fun i k hi hk => (FRn.roundP hA hj h N (Nat.le_refl _)).all i k hi hk
theorem FBd.closeP {A : Int} {b : FMat} (hA : 0 ≤ A) (h : FBd F N A b) : ∀ n, n ≤ N → FBd F N (6 ^ n * A) (fClose F N b n)
  | 0, _ => by simpa [fClose] using h
  | n + 1, hn => by
    rw [fClose_succ]
    have := FBd.roundP (j := n) (Int.mul_nonneg (Int.pow_nonneg (by omega)) hA) (by omega) (FBd.closeP hA h n (by omega))
    rw [show (6 : Int) ^ (n + 1) * A = 6 * (6 ^ n * A) from by rw [Int.pow_succ]; rw [Int.mul_comm (6 ^ n) 6, Int.mul_assoc]]
    exact this
end
end ZW
