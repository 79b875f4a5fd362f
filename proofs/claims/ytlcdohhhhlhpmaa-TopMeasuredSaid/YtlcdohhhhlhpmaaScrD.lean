/-
  Texts La, Lb, Lc, Ld, Le in one.
-/
import Derived.Test.YtlcdohhhhlhpmaaScrC
namespace Go.Proofs.Ytlcdohhhhlhpmaa.Scr
open ZW

/-- Numbers of points that bounds allow. -/
def Sat (p : Nat → Int) (b : BMat) : Prop := ∀ i k, i < 8 → k < 8 → b i k < never → p k - p i ≤ b i k

theorem Sat.step {p : Nat → Int} {b : BMat} {j i k : Nat} (h : Sat p b) (hj : j < 8) (hi : i < 8) (hk : k < 8) : Sat p (stepP j b i k) := by
  intro x y hx hy hf
  unfold stepP at hf ⊢
  split at hf
  · rename_i hc
    rw [if_pos hc]
    unfold bUpd at hf ⊢
    split at hf
    · rename_i he
      obtain ⟨rfl, rfl⟩ := he
      rw [if_pos ⟨rfl, rfl⟩]
      have h1 := h x j hx hj hc.1
      have h2 := h j y hj hy hc.2
      by_cases hb : b x y < never
      · have := h x y hx hy hb; omega
      · omega
    · rename_i he
      rw [if_neg he]; exact h x y hx hy hf
  · rename_i hc
    rw [if_neg hc]; exact h x y hx hy hf
theorem Sat.row {p : Nat → Int} {b : BMat} {j i : Nat} (h : Sat p b) (hj : j < 8) (hi : i < 8) : ∀ n, n ≤ 8 → Sat p (rowP j b i n)
  | 0, _ => h
  | n + 1, hn => by rw [rowP_succ]; exact (Sat.row h hj hi n (by omega)).step hj hi (by omega)
theorem Sat.round {p : Nat → Int} {b : BMat} {j : Nat} (h : Sat p b) (hj : j < 8) : ∀ n, n ≤ 8 → Sat p (roundP b j n)
  | 0, _ => h
  | n + 1, hn => by rw [roundP_succ]; exact (Sat.round h hj n (by omega)).row hj (by omega) 8 (Nat.le_refl _)
theorem Sat.close {p : Nat → Int} {b : BMat} (h : Sat p b) : ∀ n, n ≤ 8 → Sat p (closeP b n)
  | 0, _ => h
  | n + 1, hn => by rw [closeP_succ]; exact (Sat.close h n (by omega)).round (by omega) 8 (Nat.le_refl _)

/-! ### Bounds only become tighter -/
theorem step_le (j : Nat) (b : BMat) (i k x y : Nat) : stepP j b i k x y ≤ b x y := by
  unfold stepP
  split
  · unfold bUpd
    split
    · rename_i he; obtain ⟨rfl, rfl⟩ := he; omega
    · omega
  · omega
theorem row_le (j : Nat) (b : BMat) (i x y : Nat) : ∀ n, rowP j b i n x y ≤ b x y
  | 0 => Int.le_refl _
  | n + 1 => by rw [rowP_succ]; exact Int.le_trans (step_le _ _ _ _ _ _) (row_le j b i x y n)
theorem round_le (b : BMat) (j x y : Nat) : ∀ n, roundP b j n x y ≤ b x y
  | 0 => Int.le_refl _
  | n + 1 => by rw [roundP_succ]; exact Int.le_trans (row_le _ _ _ _ _ _) (round_le b j x y n)
theorem close_le (b : BMat) (x y : Nat) : ∀ n, closeP b n x y ≤ b x y
  | 0 => Int.le_refl _
  | n + 1 => by rw [closeP_succ]; exact Int.le_trans (round_le _ _ _ _ _) (close_le b x y n)
theorem close_mono (b : BMat) (x y : Nat) : ∀ k n, closeP b (n + k) x y ≤ closeP b n x y
  | 0, _ => Int.le_refl _
  | k + 1, n => by rw [← Nat.add_assoc, closeP_succ]; exact Int.le_trans (round_le _ _ _ _ _) (close_mono b x y k n)

/-! ### A round, if a point is not before itself -/
def rf (b : BMat) (j i k : Nat) : Int := if b i j < never ∧ b j k < never then min (b i k) (b i j + b j k) else b i k
/-- In a round: rows less than r are done, and of row r the first s. -/
structure RI (b : BMat) (j r s : Nat) (c : BMat) : Prop where
  old : ∀ i k, i < 8 → k < 8 → (r < i ∨ r = i ∧ s ≤ k) → c i k = b i k
  new : ∀ i k, i < 8 → k < 8 → (i < r ∨ i = r ∧ k < s) → c i k = rf b j i k
theorem rf_row {b : BMat} {j k : Nat} (hd : 0 ≤ b j j) : rf b j j k = b j k := by
  unfold rf; split <;> omega
theorem rf_col {b : BMat} {j i : Nat} (hd : 0 ≤ b j j) : rf b j i j = b i j := by
  unfold rf; split <;> omega
theorem RI.row {b c : BMat} {j r s : Nat} (h : RI b j r s c) (hd : 0 ≤ b j j) (hj : j < 8) {k : Nat} (hk : k < 8) : c j k = b j k := by
  by_cases hc : r < j ∨ r = j ∧ s ≤ k
  · exact h.old j k hj hk hc
  · rw [h.new j k hj hk (by omega), rf_row hd]
theorem RI.col {b c : BMat} {j r s : Nat} (h : RI b j r s c) (hd : 0 ≤ b j j) (hj : j < 8) {i : Nat} (hi : i < 8) : c i j = b i j := by
  by_cases hc : r < i ∨ r = i ∧ s ≤ j
  · exact h.old i j hi hj hc
  · rw [h.new i j hi hj (by omega), rf_col hd]
theorem RI.step {b c : BMat} {j r s : Nat} (h : RI b j r s c) (hd : 0 ≤ b j j) (hj : j < 8) (hr : r < 8) (hs : s < 8) : RI b j r (s + 1) (stepP j c r s) := by
  have h1 := h.col hd hj hr
  have h2 := h.row hd hj hs
  have h3 := h.old r s hr hs (by omega)
  have hv : ∀ i k, stepP j c r s i k = if i = r ∧ k = s then rf b j r s else c i k := by
    intro i k
    unfold stepP rf
    rw [h1, h2]
    by_cases hc : b r j < never ∧ b j s < never
    · rw [if_pos hc, if_pos hc]
      unfold bUpd
      rw [h3]
    · rw [if_neg hc, if_neg hc]
      by_cases he : i = r ∧ k = s
      · obtain ⟨rfl, rfl⟩ := he; rw [if_pos ⟨rfl, rfl⟩, h3]
      · rw [if_neg he]
  refine ⟨fun i k hi hk hc => ?_, fun i k hi hk hc => ?_⟩
  · rw [hv, if_neg (by omega)]; exact h.old i k hi hk (by omega)
  · rw [hv]
    by_cases he : i = r ∧ k = s
    · obtain ⟨rfl, rfl⟩ := he; rw [if_pos ⟨rfl, rfl⟩]
    · rw [if_neg he]; exact h.new i k hi hk (by omega)
theorem RI.rowP {b c : BMat} {j r : Nat} (h : RI b j r 0 c) (hd : 0 ≤ b j j) (hj : j < 8) (hr : r < 8) : ∀ n, n ≤ 8 → RI b j r n (rowP j c r n)
  | 0, _ => h
  | n + 1, hn => by rw [rowP_succ]; exact (RI.rowP h hd hj hr n (by omega)).step hd hj hr (by omega)
theorem RI.round {b : BMat} {j : Nat} (hd : 0 ≤ b j j) (hj : j < 8) : ∀ n, n ≤ 8 → RI b j n 0 (roundP b j n)
  | 0, _ => ⟨fun _ _ _ _ _ => rfl, fun i k _ _ hc => by omega⟩
  | n + 1, hn => by
    rw [roundP_succ]
    have h := (RI.round hd hj n (by omega)).rowP hd hj (by omega) 8 (Nat.le_refl _)
    exact ⟨fun i k hi hk hc => h.old i k hi hk (by omega), fun i k hi hk hc => h.new i k hi hk (by omega)⟩
theorem round_eq {b : BMat} {j : Nat} (hd : 0 ≤ b j j) (hj : j < 8) {i k : Nat} (hi : i < 8) (hk : k < 8) : roundP b j 8 i k = rf b j i k :=
  (RI.round hd hj 8 (Nat.le_refl _)).new i k hi hk (by omega)

/-! ### Ways by points that were gone through are no shorter -/
def Tri (n : Nat) (b : BMat) : Prop := ∀ j i k, j < n → j < 8 → i < 8 → k < 8 → b i j < never → b j k < never → b i k ≤ b i j + b j k
def Fin' (U : Int) (b : BMat) : Prop := ∀ i k, i < 8 → k < 8 → b i k < never → b i k ≤ U
theorem rf_fin {b : BMat} {n i j : Nat} (h : rf b n i j < never) : (b i j < never ∧ rf b n i j = b i j) ∨ (b i n < never ∧ b n j < never ∧ rf b n i j = b i n + b n j) := by
  unfold rf at h ⊢
  split at h
  · rename_i hc
    rw [if_pos hc]
    by_cases hm : b i j ≤ b i n + b n j
    · left; omega
    · right; omega
  · rename_i hc
    rw [if_neg hc]; exact .inl ⟨h, rfl⟩
theorem rf_le (b : BMat) (n i k : Nat) : rf b n i k ≤ b i k := by unfold rf; split <;> omega
theorem rf_le2 {b : BMat} {n i k : Nat} (h1 : b i n < never) (h2 : b n k < never) : rf b n i k ≤ b i n + b n k := by unfold rf; rw [if_pos ⟨h1, h2⟩]; omega
theorem Tri.rf {n : Nat} {b : BMat} {U : Int} (h : Tri n b) (hn : n < 8) (hd : 0 ≤ b n n) (hU : Fin' U b) (h2 : 2 * U < never) : Tri (n + 1) (rf b n) := by
  intro j i k hj hj8 hi hk h1 h3
  rcases Nat.lt_or_ge j n with hlt | hge
  · rcases rf_fin h1 with ⟨f1, e1⟩ | ⟨f1, f1', e1⟩ <;> rcases rf_fin h3 with ⟨f3, e3⟩ | ⟨f3, f3', e3⟩
    · have := h j i k hlt hj8 hi hk f1 f3
      have := rf_le b n i k
      omega
    · have t := h j i n hlt hj8 hi hn f1 f3
      have u1 := hU i j hi hj8 f1
      have u2 := hU j n hj8 hn f3
      have := rf_le2 (b := b) (n := n) (i := i) (k := k) (by omega) f3'
      omega
    · have t := h j n k hlt hj8 hn hk f1' f3
      have u1 := hU n j hn hj8 f1'
      have u2 := hU j k hj8 hk f3
      have := rf_le2 (b := b) (n := n) (i := i) (k := k) f1 (by omega)
      omega
    · have t := h j n n hlt hj8 hn hn f1' f3
      have := rf_le2 (b := b) (n := n) (i := i) (k := k) f1 f3'
      omega
  · obtain rfl : j = n := by omega
    rw [rf_col hd] at h1 ⊢
    rw [rf_row hd] at h3 ⊢
    exact rf_le2 h1 h3
theorem Fin'.rf {n : Nat} {b : BMat} {U : Int} (hn : n < 8) (hU : Fin' U b) (h0 : 0 ≤ U) : Fin' (2 * U) (rf b n) := by
  intro i k hi hk h
  rcases rf_fin h with ⟨f, e⟩ | ⟨f, f', e⟩
  · have := hU i k hi hk f; omega
  · have := hU i n hi hn f
    have := hU n k hn hk f'
    omega
theorem Tri.congr {n : Nat} {b c : BMat} (h : Tri n b) (hc : ∀ i k, i < 8 → k < 8 → c i k = b i k) : Tri n c := by
  intro j i k hj hj8 hi hk
  rw [hc i j hi hj8, hc j k hj8 hk, hc i k hi hk]
  exact h j i k hj hj8 hi hk
theorem Fin'.congr {U : Int} {b c : BMat} (h : Fin' U b) (hc : ∀ i k, i < 8 → k < 8 → c i k = b i k) : Fin' U c := by
  intro i k hi hk
  rw [hc i k hi hk]; exact h i k hi hk
theorem close_tri {b : BMat} (hU : Fin' 300000 b) (hd : diagOk (closeP b 8)) : ∀ n, n ≤ 8 → Tri n (closeP b n) ∧ Fin' (2 ^ n * 300000) (closeP b n)
  | 0, _ => ⟨fun j i k hj => absurd hj (by omega), by simpa [closeP] using hU⟩
  | n + 1, hn => by
    obtain ⟨h1, h2⟩ := close_tri hU hd n (by omega)
    have hnn : 0 ≤ closeP b n n n := by
      have h3 := close_mono b n n (8 - n) n
      rw [show n + (8 - n) = 8 from by omega] at h3
      have := hd n (by omega)
      omega
    have he : ∀ i k, i < 8 → k < 8 → closeP b (n + 1) i k = rf (closeP b n) n i k := fun i k hi hk => by
      rw [closeP_succ]; exact round_eq hnn (by omega) hi hk
    have hp : (2 : Int) ^ n ≤ 128 ∧ 0 ≤ (2 : Int) ^ n := by
      have h4 : 2 ^ n ≤ 2 ^ 7 := Nat.pow_le_pow_right (by omega) (by omega)
      have h5 : ((2 ^ n : Nat) : Int) ≤ ((2 ^ 7 : Nat) : Int) := Int.ofNat_le.2 h4
      simp only [Int.natCast_pow] at h5
      exact ⟨h5, Int.pow_nonneg (by omega)⟩
    refine ⟨(h1.rf (by omega) hnn h2 (by unfold never; omega)).congr he, ?_⟩
    have h6 := (h2.rf (n := n) (by omega) (by omega)).congr he
    rw [Int.pow_succ]
    rw [show 2 * ((2 : Int) ^ n * 300000) = 2 ^ n * 2 * 300000 from by omega] at h6
    exact h6
end Go.Proofs.Ytlcdohhhhlhpmaa.Scr
namespace Go.Proofs.Ytlcdohhhhlhpmaa.Scr
open ZW

theorem Sat.put_iff {p : Nat → Int} {b : BMat} {f t : Nat} {x : Int × Int} (hf : f < 8) (ht : t < 8) (hne : f ≠ t) (h1 : x.2 < never) (h2 : -x.1 < never) :
    Sat p (putP b f t x) ↔ Sat p b ∧ x.1 ≤ p t - p f ∧ p t - p f ≤ x.2 := by
  have hv : ∀ i k, putP b f t x i k = if i = t ∧ k = f then min (b t f) (-x.1) else if i = f ∧ k = t then min (b f t) x.2 else b i k := fun i k => rfl
  constructor
  · intro h
    have e1 : putP b f t x f t = min (b f t) x.2 := by rw [hv, if_neg (by omega), if_pos ⟨rfl, rfl⟩]
    have e2 : putP b f t x t f = min (b t f) (-x.1) := by rw [hv, if_pos ⟨rfl, rfl⟩]
    have h3 := h f t hf ht (by rw [e1]; omega)
    have h4 := h t f ht hf (by rw [e2]; omega)
    rw [e1] at h3
    rw [e2] at h4
    refine ⟨fun i k hi hk hb => ?_, by omega, by omega⟩
    have hle : putP b f t x i k ≤ b i k := by
      rw [hv]
      split
      · rename_i he; obtain ⟨rfl, rfl⟩ := he; omega
      · split
        · rename_i he; obtain ⟨rfl, rfl⟩ := he; omega
        · omega
    have := h i k hi hk (by omega)
    omega
  · rintro ⟨h, h3, h4⟩ i k hi hk hb
    rw [hv] at hb ⊢
    split
    · rename_i he
      obtain ⟨rfl, rfl⟩ := he
      by_cases hc : b i k < never
      · have := h i k hi hk hc; omega
      · omega
    · rename_i he0
      rw [if_neg he0] at hb
      split
      · rename_i he
        obtain ⟨rfl, rfl⟩ := he
        by_cases hc : b i k < never
        · have := h i k hi hk hc; omega
        · omega
      · rename_i he1
        rw [if_neg he1] at hb
        exact h i k hi hk hb
theorem Sat.free (p : Nat → Int) : Sat p freeP := by
  intro i k _ _ h
  unfold freeP at h ⊢
  split at h
  · rename_i he; subst he; rw [if_pos rfl]; omega
  · omega

/-- A setting is right. -/
def toldOk (p : Nat → Int) (t : Told) : Prop := if t.2.2 = true then t.2.1.1 ≤ p 1 - p (2 + t.1) ∧ p 1 - p (2 + t.1) ≤ t.2.1.2 else t.2.1.1 ≤ p (2 + t.1) - p 0 ∧ p (2 + t.1) - p 0 ≤ t.2.1.2
theorem Sat.tell_iff {p : Nat → Int} {b : BMat} {t : Told} (h : t.1 < 6 ∧ -200 ≤ t.2.1.1 ∧ t.2.1.1 ≤ t.2.1.2 ∧ t.2.1.2 ≤ 41000) : Sat p (tellP b t) ↔ Sat p b ∧ toldOk p t := by
  unfold tellP toldOk
  split
  · rw [Sat.put_iff (by omega) (by omega) (by omega) (by unfold never; omega) (by unfold never; omega)]
  · rw [Sat.put_iff (by omega) (by omega) (by omega) (by unfold never; omega) (by unfold never; omega)]
/-- What can be: p 0 is the zero of the screw, p 1 the sum, p (2 + g) where an image stands. -/
def TruthP (m : Meas) (S : Nat) (p : Nat → Int) : Prop := (m.sum.1 ≤ p 1 - p 0 ∧ p 1 - p 0 ≤ m.sum.2) ∧ ∀ i, i < m.sets.length → S.testBit i = true → toldOk p ((toldP m).getD i told0)
/-- The bounds as they are put. -/
def b0P (m : Meas) (S n : Nat) : BMat := tellsP (putP freeP 0 1 m.sum) (toldP m) S n
theorem tightB_eq (m : Meas) (S : Nat) : tightB m S = closeP (b0P m S m.sets.length) 8 := rfl
theorem Sat.b0 {m : Meas} (hM : MeasOk m) {S : Nat} {p : Nat → Int} : ∀ n, n ≤ m.sets.length → (Sat p (b0P m S n) ↔ (m.sum.1 ≤ p 1 - p 0 ∧ p 1 - p 0 ≤ m.sum.2) ∧ ∀ i, i < n → S.testBit i = true → toldOk p ((toldP m).getD i told0))
  | 0, _ => by
    have hu := hM.u
    unfold spanOk at hu
    have : Sat p (b0P m S 0) ↔ _ := Sat.put_iff (p := p) (b := freeP) (f := 0) (t := 1) (x := m.sum) (by omega) (by omega) (by omega) (by unfold never; omega) (by unfold never; omega)
    rw [this]
    constructor
    · rintro ⟨_, h⟩; exact ⟨h, fun i hi => absurd hi (by omega)⟩
    · rintro ⟨h, _⟩; exact ⟨Sat.free p, h⟩
  | n + 1, hn => by
    have ih := Sat.b0 hM (S := S) (p := p) n (by omega)
    have e : b0P m S (n + 1) = if S.testBit n then tellP (b0P m S n) ((toldP m).getD n told0) else b0P m S n := tellsP_succ _ _ _ _
    rw [e]
    by_cases hS : S.testBit n = true
    · rw [if_pos hS, Sat.tell_iff (told_bd hM (by omega)), ih]
      constructor
      · rintro ⟨⟨h1, h2⟩, h3⟩
        refine ⟨h1, fun i hi hSi => ?_⟩
        rcases Nat.lt_or_ge i n with h | h
        · exact h2 i h hSi
        · obtain rfl : i = n := by omega
          exact h3
      · rintro ⟨h1, h2⟩
        exact ⟨⟨h1, fun i hi => h2 i (by omega)⟩, h2 n (by omega) hS⟩
    · rw [if_neg hS, ih]
      constructor
      · rintro ⟨h1, h2⟩
        refine ⟨h1, fun i hi hSi => ?_⟩
        rcases Nat.lt_or_ge i n with h | h
        · exact h2 i h hSi
        · obtain rfl : i = n := by omega
          exact absurd hSi hS
      · rintro ⟨h1, h2⟩
        exact ⟨h1, fun i hi => h2 i (by omega)⟩
theorem Sat.truth {m : Meas} (hM : MeasOk m) {S : Nat} {p : Nat → Int} : Sat p (b0P m S m.sets.length) ↔ TruthP m S p := Sat.b0 hM _ (Nat.le_refl _)

/-! ### How bounds are made -/
structure Str (b : BMat) : Prop where
  diag : ∀ i, i < 8 → b i i = 0
  sym : ∀ i k, i < 8 → k < 8 → b i k < never → b k i < never
  img : ∀ i k, i < 8 → k < 8 → i ≠ k → b i k < never → i < 2 ∨ k < 2
theorem Str.put {b : BMat} (h : Str b) {f t : Nat} {x : Int × Int} (hne : f ≠ t) (h2 : f < 2 ∨ t < 2) (h3 : x.2 < never) (h4 : -x.1 < never) : Str (putP b f t x) := by
  have hv : ∀ i k, putP b f t x i k = if i = t ∧ k = f then min (b t f) (-x.1) else if i = f ∧ k = t then min (b f t) x.2 else b i k := fun i k => rfl
  refine ⟨fun i hi => ?_, fun i k hi hk hb => ?_, fun i k hi hk hik hb => ?_⟩
  · rw [hv, if_neg (by omega), if_neg (by omega)]; exact h.diag i hi
  · rw [hv] at hb ⊢
    by_cases c1 : k = t ∧ i = f
    · rw [if_pos c1]; omega
    · rw [if_neg c1]
      by_cases c2 : k = f ∧ i = t
      · rw [if_pos c2]; omega
      · rw [if_neg c2]
        rw [if_neg (by omega), if_neg (by omega)] at hb
        exact h.sym i k hi hk hb
  · rw [hv] at hb
    by_cases c1 : i = t ∧ k = f
    · omega
    · rw [if_neg c1] at hb
      by_cases c2 : i = f ∧ k = t
      · omega
      · rw [if_neg c2] at hb
        exact h.img i k hi hk hik hb
theorem Str.free : Str freeP := by
  refine ⟨fun i _ => by simp [freeP], fun i k _ _ h => ?_, fun i k _ _ hik h => ?_⟩
  · unfold freeP at h ⊢
    by_cases he : k = i
    · rw [if_pos he]; unfold never; omega
    · rw [if_neg (Ne.symm he)] at h; omega
  · unfold freeP at h
    rw [if_neg hik] at h; omega
theorem Str.tell {b : BMat} (h : Str b) {t : Told} (ht : t.1 < 6 ∧ -200 ≤ t.2.1.1 ∧ t.2.1.1 ≤ t.2.1.2 ∧ t.2.1.2 ≤ 41000) : Str (tellP b t) := by
  unfold tellP
  split
  · exact h.put (by omega) (by omega) (by unfold never; omega) (by unfold never; omega)
  · exact h.put (by omega) (by omega) (by unfold never; omega) (by unfold never; omega)
theorem Str.b0 {m : Meas} (hM : MeasOk m) (S : Nat) : ∀ n, n ≤ m.sets.length → Str (b0P m S n)
  | 0, _ => by
    have hu := hM.u
    unfold spanOk at hu
    exact Str.free.put (by omega) (by omega) (by unfold never; omega) (by unfold never; omega)
  | n + 1, hn => by
    have ih := Str.b0 hM S n (by omega)
    have e : b0P m S (n + 1) = if S.testBit n then tellP (b0P m S n) ((toldP m).getD n told0) else b0P m S n := tellsP_succ _ _ _ _
    rw [e]
    split
    · exact ih.tell (told_bd hM (by omega))
    · exact ih
theorem put_le (b : BMat) {f t : Nat} (x : Int × Int) (i k : Nat) : putP b f t x i k ≤ b i k := by
  have hv : putP b f t x i k = if i = t ∧ k = f then min (b t f) (-x.1) else if i = f ∧ k = t then min (b f t) x.2 else b i k := rfl
  rw [hv]
  split
  · rename_i he; obtain ⟨rfl, rfl⟩ := he; omega
  · split
    · rename_i he; obtain ⟨rfl, rfl⟩ := he; omega
    · omega
theorem tell_le (b : BMat) (t : Told) (i k : Nat) : tellP b t i k ≤ b i k := by
  unfold tellP; split <;> exact put_le _ _ _ _
theorem b0_le (m : Meas) (S i k : Nat) : ∀ n, b0P m S n i k ≤ b0P m S 0 i k
  | 0 => Int.le_refl _
  | n + 1 => by
    have e : b0P m S (n + 1) = if S.testBit n then tellP (b0P m S n) ((toldP m).getD n told0) else b0P m S n := tellsP_succ _ _ _ _
    have ih := b0_le m S i k n
    rw [e]
    split
    · exact Int.le_trans (tell_le _ _ _ _) ih
    · exact ih
theorem b0_mono (m : Meas) (S i k n : Nat) : ∀ d, b0P m S (n + d) i k ≤ b0P m S n i k
  | 0 => Int.le_refl _
  | d + 1 => by
    have e : b0P m S (n + d + 1) = if S.testBit (n + d) then tellP (b0P m S (n + d)) ((toldP m).getD (n + d) told0) else b0P m S (n + d) := tellsP_succ _ _ _ _
    have ih := b0_mono m S i k n d
    rw [← Nat.add_assoc, e]
    split
    · exact Int.le_trans (tell_le _ _ _ _) ih
    · exact ih

/-! ### What closed bounds say -/
theorem b0_fin {m : Meas} (hM : MeasOk m) (S : Nat) : Fin' 300000 (b0P m S m.sets.length) ∧ b0P m S m.sets.length 0 1 ≤ 131072 ∧ b0P m S m.sets.length 1 0 ≤ 0 := by
  have hu := hM.u
  unfold spanOk at hu
  have key : ∀ n, n ≤ m.sets.length → Fin' 300000 (b0P m S n) := by
    intro n
    induction n with
    | zero =>
      intro _ i k _ _ h
      have hv : b0P m S 0 i k = if i = 1 ∧ k = 0 then min (freeP 1 0) (-m.sum.1) else if i = 0 ∧ k = 1 then min (freeP 0 1) m.sum.2 else freeP i k := rfl
      rw [hv] at h ⊢
      split
      · omega
      · rename_i c1
        rw [if_neg c1] at h
        split
        · omega
        · rename_i c2
          rw [if_neg c2] at h
          unfold freeP at h ⊢
          split at h
          · rename_i c3; rw [if_pos c3]; omega
          · omega
    | succ n ih =>
      intro hn
      have ih := ih (by omega)
      have ht := told_bd hM (i := n) (by omega)
      have e : b0P m S (n + 1) = if S.testBit n then tellP (b0P m S n) ((toldP m).getD n told0) else b0P m S n := tellsP_succ _ _ _ _
      rw [e]
      split
      · unfold tellP
        have pf : ∀ (f t : Nat) (x : Int × Int), f < 8 → t < 8 → x.2 ≤ 300000 → -x.1 ≤ 300000 → Fin' 300000 (putP (b0P m S n) f t x) := by
          intro f t x hf ht h1 h2 i k hi hk h
          have hv : putP (b0P m S n) f t x i k = if i = t ∧ k = f then min (b0P m S n t f) (-x.1) else if i = f ∧ k = t then min (b0P m S n f t) x.2 else b0P m S n i k := rfl
          rw [hv] at h ⊢
          split
          · omega
          · rename_i c1
            rw [if_neg c1] at h
            split
            · omega
            · rename_i c2
              rw [if_neg c2] at h
              exact ih i k hi hk h
        split
        · exact pf _ _ _ (by omega) (by omega) (by omega) (by omega)
        · exact pf _ _ _ (by omega) (by omega) (by omega) (by omega)
      · exact ih
  have h01 : b0P m S 0 0 1 = min (freeP 0 1) m.sum.2 := rfl
  have h10 : b0P m S 0 1 0 = min (freeP 1 0) (-m.sum.1) := rfl
  have l01 := b0_le m S 0 1 m.sets.length
  have l10 := b0_le m S 1 0 m.sets.length
  exact ⟨key _ (Nat.le_refl _), by omega, by omega⟩

/-- A point is linked with the zero. -/
def Lk (b : BMat) (i : Nat) : Prop := b 0 i < never ∧ b i 0 < never

theorem cl_lk1 {m : Meas} (hM : MeasOk m) {S : Nat} (_ : diagOk (tightB m S)) : Lk (tightB m S) 1 := by
  have ⟨_, h1, h2⟩ := b0_fin hM S
  have h3 := close_le (b0P m S m.sets.length) 0 1 8
  have h4 := close_le (b0P m S m.sets.length) 1 0 8
  rw [← tightB_eq] at h3 h4
  unfold Lk never
  omega
theorem cl_tri {m : Meas} (hM : MeasOk m) {S : Nat} (hd : diagOk (tightB m S)) : Tri 8 (tightB m S) ∧ Fin' 76800000 (tightB m S) := by
  have h := close_tri (b0_fin hM S).1 hd 8 (Nat.le_refl _)
  exact ⟨h.1, by rw [tightB_eq]; simpa using h.2⟩
theorem cl_diag {m : Meas} (hM : MeasOk m) {S : Nat} (hd : diagOk (tightB m S)) {i : Nat} (hi : i < 8) : tightB m S i i = 0 := by
  have h1 := hd i hi
  have h2 := close_le (b0P m S m.sets.length) i i 8
  rw [(Str.b0 hM S _ (Nat.le_refl _)).diag i hi, ← tightB_eq] at h2
  omega
theorem cl_tr {m : Meas} (hM : MeasOk m) {S : Nat} (hd : diagOk (tightB m S)) {i j k : Nat} (hi : i < 8) (hj : j < 8) (hk : k < 8) (h1 : tightB m S i j < never) (h2 : tightB m S j k < never) : tightB m S i k ≤ tightB m S i j + tightB m S j k ∧ tightB m S i k < never := by
  have ⟨t, f⟩ := cl_tri hM hd
  have h3 := t j i k hj hj hi hk h1 h2
  have h4 := f i j hi hj h1
  have h5 := f j k hj hk h2
  exact ⟨h3, by unfold never; omega⟩
theorem cl_lk0 {m : Meas} (hM : MeasOk m) {S : Nat} (hd : diagOk (tightB m S)) : Lk (tightB m S) 0 := by
  have := cl_diag hM hd (i := 0) (by omega)
  unfold Lk never; omega
theorem cl_lk {m : Meas} (hM : MeasOk m) {S : Nat} (hd : diagOk (tightB m S)) {i k : Nat} (hi : i < 8) (hk : k < 8) (h1 : Lk (tightB m S) i) (h2 : Lk (tightB m S) k) : tightB m S i k < never := (cl_tr hM hd hi (by omega) hk h1.2 h2.1).2
/-- The truth of which a point is the root. -/
theorem cl_root {m : Meas} (hM : MeasOk m) {S : Nat} (hd : diagOk (tightB m S)) {r : Nat} (hr : r < 8) (hl : Lk (tightB m S) r) : Sat (fun k => if tightB m S r k < never then tightB m S r k else 0) (b0P m S m.sets.length) := by
  have str := Str.b0 hM S m.sets.length (Nat.le_refl _)
  intro i k hi hk hf
  have hle := close_le (b0P m S m.sets.length) i k 8
  have hle' := close_le (b0P m S m.sets.length) k i 8
  rw [← tightB_eq] at hle hle'
  have hki := str.sym i k hi hk hf
  show (if tightB m S r k < never then tightB m S r k else 0) - (if tightB m S r i < never then tightB m S r i else 0) ≤ _
  by_cases c1 : tightB m S r i < never
  · have := cl_tr hM hd hr hi hk c1 (by omega)
    rw [if_pos c1, if_pos this.2]; omega
  · by_cases c2 : tightB m S r k < never
    · have := cl_tr hM hd hr hk hi c2 (by omega)
      exact absurd this.2 c1
    · rw [if_neg c1, if_neg c2]
      by_cases hik : i = k
      · subst hik; rw [str.diag i hi]; omega
      · have h0 : tightB m S r 0 < never := hl.2
        have h1 : tightB m S r 1 < never := cl_lk hM hd hr (by omega) hl (cl_lk1 hM hd)
        rcases str.img i k hi hk hik hf with h | h
        · have : i = 0 ∨ i = 1 := by omega
          rcases this with rfl | rfl
          · exact absurd h0 c1
          · exact absurd h1 c1
        · have : k = 0 ∨ k = 1 := by omega
          rcases this with rfl | rfl
          · exact absurd h0 c2
          · exact absurd h1 c2
/-- By how much a point can be greater than another one: at most by what is told, and by that. -/
theorem cl_max {m : Meas} (hM : MeasOk m) {S : Nat} (hd : diagOk (tightB m S)) {i k : Nat} (hi : i < 8) (hk : k < 8) (h1 : Lk (tightB m S) i) (h2 : Lk (tightB m S) k) :
    (∀ p, TruthP m S p → p k - p i ≤ tightB m S i k) ∧ ∃ p, TruthP m S p ∧ p k - p i = tightB m S i k := by
  refine ⟨fun p hp => ?_, _, (Sat.truth hM).1 (cl_root hM hd hi h1), ?_⟩
  · exact (((Sat.truth hM).2 hp).close 8 (Nat.le_refl _)) i k hi hk (cl_lk hM hd hi hk h1 h2)
  · have := cl_diag hM hd hi
    show (if tightB m S i k < never then tightB m S i k else 0) - (if tightB m S i i < never then tightB m S i i else 0) = _
    rw [if_pos (cl_lk hM hd hi hk h1 h2), if_pos (by rw [this]; unfold never; omega), this]; omega
/-- Settings can all be right just if there is a truth. -/
theorem can_iff {m : Meas} (hM : MeasOk m) {S : Nat} : diagOk (tightB m S) ↔ ∃ p, TruthP m S p := by
  constructor
  · intro hd
    exact ⟨_, (Sat.truth hM).1 (cl_root hM hd (r := 0) (by omega) (cl_lk0 hM hd))⟩
  · rintro ⟨p, hp⟩ i hi
    have h1 := ((Sat.truth hM).2 hp).close 8 (Nat.le_refl _)
    have h2 := close_le (b0P m S m.sets.length) i i 8
    rw [(Str.b0 hM S _ (Nat.le_refl _)).diag i hi] at h2
    have := h1 i i hi hi (by unfold never; omega)
    rw [tightB_eq]; omega
end Go.Proofs.Ytlcdohhhhlhpmaa.Scr
namespace Go.Proofs.Ytlcdohhhhlhpmaa.Scr
open ZW

/-- What settings of a set that are reversed, or the others, tell of an image, after the first n. -/
def toldF (m : Meas) (S : Nat) (g : Int) (r : Bool) (n : Nat) : Int × Int := (List.range n).foldl (fun o i => if S.testBit i = true ∧ (setAt m i).1 = g ∧ (setAt m i).2.2 = r then
  (max o.1 (travelP m (setAt m i).2.1).1, min o.2 (travelP m (setAt m i).2.1).2) else o) (-never, never)
theorem toldF_succ (m : Meas) (S : Nat) (g : Int) (r : Bool) (n : Nat) : toldF m S g r (n + 1) = if S.testBit n = true ∧ (setAt m n).1 = g ∧ (setAt m n).2.2 = r then
  (max (toldF m S g r n).1 (travelP m (setAt m n).2.1).1, min (toldF m S g r n).2 (travelP m (setAt m n).2.1).2) else toldF m S g r n := range_foldl_succ _ _ _
abbrev toldA (m : Meas) (S : Nat) (g : Int) (r : Bool) : Int × Int := toldF m S g r m.sets.length
theorem toldF_iff (m : Meas) (S : Nat) (g : Int) (r : Bool) (v : Int) : ∀ n, ((toldF m S g r n).1 ≤ v ∧ v ≤ (toldF m S g r n).2) ↔
    ((-never ≤ v ∧ v ≤ never) ∧ ∀ i, i < n → S.testBit i = true → (setAt m i).1 = g → (setAt m i).2.2 = r → (travelP m (setAt m i).2.1).1 ≤ v ∧ v ≤ (travelP m (setAt m i).2.1).2)
  | 0 => by
    constructor
    · intro h; exact ⟨h, fun i hi => absurd hi (by omega)⟩
    · intro h; exact h.1
  | n + 1 => by
    have ih := toldF_iff m S g r v n
    rw [toldF_succ]
    by_cases hc : S.testBit n = true ∧ (setAt m n).1 = g ∧ (setAt m n).2.2 = r
    · rw [if_pos hc]
      constructor
      · intro h
        simp only at h
        obtain ⟨h1, h2⟩ := ih.1 ⟨by omega, by omega⟩
        refine ⟨h1, fun i hi a b c => ?_⟩
        rcases Nat.lt_or_ge i n with hl | hl
        · exact h2 i hl a b c
        · obtain rfl : i = n := by omega
          exact ⟨by omega, by omega⟩
      · rintro ⟨h1, h2⟩
        have h3 := ih.2 ⟨h1, fun i hi => h2 i (by omega)⟩
        have h4 := h2 n (by omega) hc.1 hc.2.1 hc.2.2
        exact ⟨by simp only; omega, by simp only; omega⟩
    · rw [if_neg hc, ih]
      constructor
      · rintro ⟨h1, h2⟩
        refine ⟨h1, fun i hi a b c => ?_⟩
        rcases Nat.lt_or_ge i n with hl | hl
        · exact h2 i hl a b c
        · obtain rfl : i = n := by omega
          exact absurd ⟨a, b, c⟩ hc
      · rintro ⟨h1, h2⟩
        exact ⟨h1, fun i hi => h2 i (by omega)⟩
/-! ### Sums -/
def sumsTo (m : Meas) (S : Nat) (n : Nat) : Int × Int := (List.range n).foldl (fun o g =>
  (max o.1 ((toldA m S (g : Nat) false).1 + (toldA m S (g : Nat) true).1), min o.2 ((toldA m S (g : Nat) false).2 + (toldA m S (g : Nat) true).2))) m.sum
theorem sumsTo_succ (m : Meas) (S n : Nat) : sumsTo m S (n + 1) = (max (sumsTo m S n).1 ((toldA m S (n : Nat) false).1 + (toldA m S (n : Nat) true).1), min (sumsTo m S n).2 ((toldA m S (n : Nat) false).2 + (toldA m S (n : Nat) true).2)) := range_foldl_succ _ _ _
def toldsOk (m : Meas) (S : Nat) (n : Nat) : Prop := ∀ g, g < n → (toldA m S (g : Nat) false).1 ≤ (toldA m S (g : Nat) false).2 ∧ (toldA m S (g : Nat) true).1 ≤ (toldA m S (g : Nat) true).2
instance (m : Meas) (S n : Nat) : Decidable (toldsOk m S n) := inferInstanceAs (Decidable (∀ g, g < n → _))
def sumsF (m : Meas) (S : Nat) : Int × Int := if toldsOk m S m.images.toNat then sumsTo m S m.images.toNat else (1, 0)
def canF (m : Meas) (S : Nat) : Bool := decide ((sumsF m S).1 ≤ (sumsF m S).2)

theorem sumsTo_iff (m : Meas) (S : Nat) (s : Int) : ∀ n, ((sumsTo m S n).1 ≤ s ∧ s ≤ (sumsTo m S n).2) ↔ (m.sum.1 ≤ s ∧ s ≤ m.sum.2) ∧
    ∀ g, g < n → (toldA m S (g : Nat) false).1 + (toldA m S (g : Nat) true).1 ≤ s ∧ s ≤ (toldA m S (g : Nat) false).2 + (toldA m S (g : Nat) true).2
  | 0 => ⟨fun h => ⟨h, fun g hg => absurd hg (by omega)⟩, fun h => h.1⟩
  | n + 1 => by
    have ih := sumsTo_iff m S s n
    rw [sumsTo_succ]
    constructor
    · intro h
      simp only at h
      obtain ⟨h1, h2⟩ := ih.1 ⟨by omega, by omega⟩
      refine ⟨h1, fun g hg => ?_⟩
      rcases Nat.lt_or_ge g n with hl | hl
      · exact h2 g hl
      · obtain rfl : g = n := by omega
        exact ⟨by omega, by omega⟩
    · rintro ⟨h1, h2⟩
      have h3 := ih.2 ⟨h1, fun g hg => h2 g (by omega)⟩
      have h4 := h2 n (by omega)
      exact ⟨by simp only; omega, by simp only; omega⟩

/-- With a sum, an image stands at one of these places. -/
def placesF (m : Meas) (S : Nat) (g : Int) (s : Int) : Int × Int := (max (toldA m S g false).1 (s - (toldA m S g true).2), min (toldA m S g false).2 (s - (toldA m S g true).1))
theorem placesF_iff (m : Meas) (S : Nat) (g s x : Int) : ((placesF m S g s).1 ≤ x ∧ x ≤ (placesF m S g s).2) ↔
    (((toldA m S g false).1 ≤ x ∧ x ≤ (toldA m S g false).2) ∧ ((toldA m S g true).1 ≤ s - x ∧ s - x ≤ (toldA m S g true).2)) := by
  unfold placesF
  simp only
  omega

/-- A truth, told by its sum and its places. -/
theorem truth_iff {m : Meas} (hM : MeasOk m) {S : Nat} {p : Nat → Int} : TruthP m S p ↔ (m.sum.1 ≤ p 1 - p 0 ∧ p 1 - p 0 ≤ m.sum.2) ∧
    ∀ i, i < m.sets.length → S.testBit i = true → ((setAt m i).2.2 = true → (travelP m (setAt m i).2.1).1 ≤ p 1 - p (2 + (setAt m i).1.toNat) ∧ p 1 - p (2 + (setAt m i).1.toNat) ≤ (travelP m (setAt m i).2.1).2) ∧
      ((setAt m i).2.2 = false → (travelP m (setAt m i).2.1).1 ≤ p (2 + (setAt m i).1.toNat) - p 0 ∧ p (2 + (setAt m i).1.toNat) - p 0 ≤ (travelP m (setAt m i).2.1).2) := by
  have hk : ∀ i, i < m.sets.length → (toldOk p ((toldP m).getD i told0) ↔ (((setAt m i).2.2 = true → (travelP m (setAt m i).2.1).1 ≤ p 1 - p (2 + (setAt m i).1.toNat) ∧ p 1 - p (2 + (setAt m i).1.toNat) ≤ (travelP m (setAt m i).2.1).2) ∧
      ((setAt m i).2.2 = false → (travelP m (setAt m i).2.1).1 ≤ p (2 + (setAt m i).1.toNat) - p 0 ∧ p (2 + (setAt m i).1.toNat) - p 0 ≤ (travelP m (setAt m i).2.1).2))) := by
    intro i hi
    rw [told_get m hi]
    show (if (setAt m i).2.2 = true then _ else _) ↔ _
    cases hr : (setAt m i).2.2
    · simp [setAt]
    · simp [setAt]
  unfold TruthP
  constructor
  · rintro ⟨h1, h2⟩; exact ⟨h1, fun i hi hS => (hk i hi).1 (h2 i hi hS)⟩
  · rintro ⟨h1, h2⟩; exact ⟨h1, fun i hi hS => (hk i hi).2 (h2 i hi hS)⟩

/-- Places of all images, with a sum, make a truth. -/
theorem truth_of {m : Meas} (hM : MeasOk m) {S : Nat} {s : Int} {x : Nat → Int} (hs : m.sum.1 ≤ s ∧ s ≤ m.sum.2) (hx : ∀ g, g < m.images.toNat → (placesF m S (g : Nat) s).1 ≤ x g ∧ x g ≤ (placesF m S (g : Nat) s).2) :
    TruthP m S (fun k => if k = 0 then 0 else if k = 1 then s else x (k - 2)) := by
  rw [truth_iff hM]
  simp only [if_true]
  refine ⟨by simpa using hs, fun i hi hS => ?_⟩
  have him := hM.a _ (getD_mem hi (0, 0, false))
  have hI := hM.i
  have hg : (setAt m i).1.toNat < m.images.toNat := by unfold setAt; omega
  have hgi : (((setAt m i).1.toNat : Nat) : Int) = (setAt m i).1 := by unfold setAt; omega
  have h := (placesF_iff m S _ s _).1 (hx _ hg)
  rw [hgi] at h
  have e2 : (2 + (setAt m i).1.toNat = 0) = False := by simp
  have e3 : (2 + (setAt m i).1.toNat = 1) = False := by simp; omega
  have e4 : 2 + (setAt m i).1.toNat - 2 = (setAt m i).1.toNat := by omega
  simp only [e2, e3, if_false, e4]
  refine ⟨fun hr => ?_, fun hr => ?_⟩
  · exact ((toldF_iff m S _ true _ _).1 h.2).2 i hi hS rfl hr
  · have := ((toldF_iff m S _ false _ _).1 h.1).2 i hi hS rfl hr
    omega
/-- And a truth has such places. -/
theorem of_truth {m : Meas} (hM : MeasOk m) {S : Nat} {p : Nat → Int} (hp : TruthP m S p) : (m.sum.1 ≤ p 1 - p 0 ∧ p 1 - p 0 ≤ m.sum.2) ∧
    ∀ g : Nat, ∃ x, ((placesF m S (g : Nat) (p 1 - p 0)).1 ≤ x ∧ x ≤ (placesF m S (g : Nat) (p 1 - p 0)).2) ∧ ((∃ i, i < m.sets.length ∧ S.testBit i = true ∧ (setAt m i).1 = (g : Nat)) → x = p (2 + g) - p 0) := by
  obtain ⟨h1, h2⟩ := (truth_iff hM).1 hp
  refine ⟨h1, fun g => ?_⟩
  have hu := hM.u
  unfold spanOk at hu
  by_cases hs : ∃ i, i < m.sets.length ∧ S.testBit i = true ∧ (setAt m i).1 = (g : Nat)
  · refine ⟨p (2 + g) - p 0, (placesF_iff m S _ _ _).2 ⟨(toldF_iff m S _ _ _ _).2 ⟨?_, fun i hi hS hg hr => ?_⟩, (toldF_iff m S _ _ _ _).2 ⟨?_, fun i hi hS hg hr => ?_⟩⟩, fun _ => rfl⟩
    · obtain ⟨i, hi, hS, hg⟩ := hs
      have ht := travel_bd hM (hM.a _ (getD_mem hi (0, 0, false))).2
      have h3 := h2 i hi hS
      rw [hg, Int.toNat_natCast] at h3
      unfold never
      unfold setAt at h3
      cases hr : (m.sets.getD i (0, 0, false)).2.2
      · have := h3.2 hr; omega
      · have := h3.1 hr; omega
    · have h3 := (h2 i hi hS).2 hr
      rw [hg, Int.toNat_natCast] at h3
      exact h3
    · obtain ⟨i, hi, hS, hg⟩ := hs
      have ht := travel_bd hM (hM.a _ (getD_mem hi (0, 0, false))).2
      have h3 := h2 i hi hS
      rw [hg, Int.toNat_natCast] at h3
      unfold never
      unfold setAt at h3
      cases hr : (m.sets.getD i (0, 0, false)).2.2
      · have := h3.2 hr; omega
      · have := h3.1 hr; omega
    · have h3 := (h2 i hi hS).1 hr
      rw [hg, Int.toNat_natCast] at h3
      omega
  · refine ⟨0, (placesF_iff m S _ _ _).2 ⟨(toldF_iff m S _ _ _ _).2 ⟨by unfold never; omega, fun i hi hS hg hr => absurd ⟨i, hi, hS, hg⟩ hs⟩, (toldF_iff m S _ _ _ _).2 ⟨by unfold never; omega, fun i hi hS hg hr => absurd ⟨i, hi, hS, hg⟩ hs⟩⟩, fun h => absurd h hs⟩

/-- A sum can be just if it is one of the document's. -/
theorem sums_iff {m : Meas} (hM : MeasOk m) {S : Nat} {s : Int} : ((sumsF m S).1 ≤ s ∧ s ≤ (sumsF m S).2) ↔ (m.sum.1 ≤ s ∧ s ≤ m.sum.2) ∧ ∀ g : Nat, g < m.images.toNat → (placesF m S (g : Nat) s).1 ≤ (placesF m S (g : Nat) s).2 := by
  unfold sumsF
  by_cases hok : toldsOk m S m.images.toNat
  · rw [if_pos hok, sumsTo_iff]
    constructor
    · rintro ⟨h1, h2⟩
      refine ⟨h1, fun g hg => ?_⟩
      have := h2 g hg
      have := hok g hg
      unfold placesF; simp only; omega
    · rintro ⟨h1, h2⟩
      refine ⟨h1, fun g hg => ?_⟩
      have := h2 g hg
      unfold placesF at this; simp only at this; omega
  · rw [if_neg hok]
    constructor
    · intro h; simp only at h; omega
    · rintro ⟨_, h2⟩
      refine absurd (fun g hg => ?_) hok
      have := h2 g hg
      unfold placesF at this; simp only at this; omega
theorem sums_truth {m : Meas} (hM : MeasOk m) {S : Nat} {s : Int} : ((sumsF m S).1 ≤ s ∧ s ≤ (sumsF m S).2) ↔ ∃ p, TruthP m S p ∧ p 1 - p 0 = s := by
  rw [sums_iff hM]
  constructor
  · rintro ⟨h1, h2⟩
    refine ⟨_, truth_of hM h1 (x := fun g => (placesF m S (g : Nat) s).1) fun g hg => ⟨Int.le_refl _, h2 g hg⟩, by simp⟩
  · rintro ⟨p, hp, rfl⟩
    obtain ⟨h1, h2⟩ := of_truth hM hp
    refine ⟨h1, fun g _ => ?_⟩
    obtain ⟨x, hx, _⟩ := h2 g
    omega
theorem can_eq {m : Meas} (hM : MeasOk m) (S : Nat) : diagOk (tightB m S) ↔ (sumsF m S).1 ≤ (sumsF m S).2 := by
  rw [can_iff hM]
  constructor
  · rintro ⟨p, hp⟩
    have := (sums_truth hM (S := S)).2 ⟨p, hp, rfl⟩
    omega
  · intro h
    obtain ⟨p, hp, _⟩ := (sums_truth hM (S := S) (s := (sumsF m S).1)).1 ⟨Int.le_refl _, h⟩
    exact ⟨p, hp⟩
theorem sum_eq {m : Meas} (hM : MeasOk m) {S : Nat} (hd : diagOk (tightB m S)) : spanB (tightB m S) 0 1 = sumsF m S := by
  have hle := (can_eq hM S).1 hd
  have ⟨u1, p, hp, hpe⟩ := cl_max hM hd (i := 0) (k := 1) (by omega) (by omega) (cl_lk0 hM hd) (cl_lk1 hM hd)
  have ⟨l1, q, hq, hqe⟩ := cl_max hM hd (i := 1) (k := 0) (by omega) (by omega) (cl_lk1 hM hd) (cl_lk0 hM hd)
  obtain ⟨p', hp', hpe'⟩ := (sums_truth hM (S := S) (s := (sumsF m S).2)).1 ⟨hle, Int.le_refl _⟩
  obtain ⟨q', hq', hqe'⟩ := (sums_truth hM (S := S) (s := (sumsF m S).1)).1 ⟨Int.le_refl _, hle⟩
  have h1 := (sums_truth hM (S := S)).2 ⟨p, hp, rfl⟩
  have h2 := (sums_truth hM (S := S)).2 ⟨q, hq, rfl⟩
  have h3 := u1 p' hp'
  have h4 := l1 q' hq'
  refine Prod.ext ?_ ?_
  · simp only; omega
  · simp only; omega
/-- A sum and a place, or two, can be together just if the places are those with that sum. -/
theorem place_truth {m : Meas} (hM : MeasOk m) {S : Nat} {s : Int} (hs : (sumsF m S).1 ≤ s ∧ s ≤ (sumsF m S).2) {a b : Nat} (ha : a < m.images.toNat) (hb : b < m.images.toNat) {x y : Int} (hx : (placesF m S (a : Nat) s).1 ≤ x ∧ x ≤ (placesF m S (a : Nat) s).2)
    (hy : (placesF m S (b : Nat) s).1 ≤ y ∧ y ≤ (placesF m S (b : Nat) s).2) (hab : a = b → x = y) : ∃ p, TruthP m S p ∧ p 1 - p 0 = s ∧ p (2 + a) - p 0 = x ∧ p (2 + b) - p 0 = y := by
  obtain ⟨h1, h2⟩ := (sums_iff hM).1 hs
  refine ⟨_, truth_of hM h1 (x := fun g => if g = a then x else if g = b then y else (placesF m S (g : Nat) s).1) fun g hg => ?_, by simp, ?_, ?_⟩
  · by_cases c1 : g = a
    · subst c1; simp only [if_true]; exact hx
    · by_cases c2 : g = b
      · subst c2; simp only [if_neg c1, if_true]; exact hy
      · simp only [if_neg c1, if_neg c2]; exact ⟨Int.le_refl _, h2 g hg⟩
  · have e1 : (2 + a = 0) = False := by simp
    have e2 : (2 + a = 1) = False := by simp; omega
    simp only [e1, e2, if_false, if_true, show 2 + a - 2 = a from by omega]; omega
  · have e1 : (2 + b = 0) = False := by simp
    have e2 : (2 + b = 1) = False := by simp; omega
    simp only [e1, e2, if_false, if_true, show 2 + b - 2 = b from by omega]
    by_cases c : b = a
    · rw [if_pos c, hab c.symm]; omega
    · rw [if_neg c]; omega
end Go.Proofs.Ytlcdohhhhlhpmaa.Scr
namespace Go.Proofs.Ytlcdohhhhlhpmaa.Scr
open ZW

/-- An image has a setting of a set. -/
def hasS (m : Meas) (S : Nat) (g : Nat) : Prop := ∃ i, i < m.sets.length ∧ S.testBit i = true ∧ (setAt m i).1 = (g : Nat)
theorem full_bit (m : Meas) {i : Nat} (hi : i < m.sets.length) : (fullS m).testBit i = true := by
  unfold fullS
  rw [Nat.testBit_two_pow_sub_one]; simpa using hi
theorem seen_has {m : Meas} {g : Nat} (h : seenP m (g : Nat)) : hasS m (fullS m) g := by
  obtain ⟨x, hx, he⟩ := (seenP_iff m _).1 h
  obtain ⟨i, hi, rfl⟩ := List.mem_iff_getElem.1 hx
  refine ⟨i, hi, full_bit m hi, ?_⟩
  unfold setAt
  rw [← List.getElem_eq_getD (h := hi)]; exact he
theorem lk_has {m : Meas} (hM : MeasOk m) {S : Nat} (hd : diagOk (tightB m S)) {g : Nat} (h : hasS m S g) : Lk (tightB m S) (2 + g) := by
  obtain ⟨i, hi, hS, hg⟩ := h
  have ht := told_bd hM hi
  have hgt : ((toldP m).getD i told0).1 = g := by
    rw [told_get m hi]
    show (setAt m i).1.toNat = g
    rw [hg]; simp
  have hg6 : g < 6 := by omega
  have e : b0P m S (i + 1) = tellP (b0P m S i) ((toldP m).getD i told0) := by
    have : b0P m S (i + 1) = if S.testBit i then tellP (b0P m S i) ((toldP m).getD i told0) else b0P m S i := tellsP_succ _ _ _ _
    rw [this, if_pos hS]
  have hle : ∀ x y, tightB m S x y ≤ tellP (b0P m S i) ((toldP m).getD i told0) x y := fun x y => by
    rw [← e]
    have h1 := b0_mono m S x y (i + 1) (m.sets.length - (i + 1))
    rw [show i + 1 + (m.sets.length - (i + 1)) = m.sets.length from by omega] at h1
    exact Int.le_trans (close_le _ _ _ _) h1
  have pv : ∀ (b : BMat) (f t : Nat) (x : Int × Int), f ≠ t → putP b f t x f t ≤ x.2 ∧ putP b f t x t f ≤ -x.1 := fun b f t x hne => by
    have hv : ∀ i k, putP b f t x i k = if i = t ∧ k = f then min (b t f) (-x.1) else if i = f ∧ k = t then min (b f t) x.2 else b i k := fun i k => rfl
    rw [hv, hv, if_neg (by omega), if_pos ⟨rfl, rfl⟩, if_pos ⟨rfl, rfl⟩]; omega
  by_cases hr : ((toldP m).getD i told0).2.2 = true
  · have e2 : tellP (b0P m S i) ((toldP m).getD i told0) = putP (b0P m S i) (2 + ((toldP m).getD i told0).1) 1 ((toldP m).getD i told0).2.1 := if_pos hr
    have h1 := pv (b0P m S i) (2 + ((toldP m).getD i told0).1) 1 ((toldP m).getD i told0).2.1 (by omega)
    rw [← e2, hgt] at h1
    have h2 : tightB m S (2 + g) 1 < never := Int.lt_of_le_of_lt (Int.le_trans (hle (2 + g) 1) (Int.le_trans h1.1 ht.2.2.2)) (by decide)
    have h3 : tightB m S 1 (2 + g) < never := Int.lt_of_le_of_lt (Int.le_trans (hle 1 (2 + g)) (Int.le_trans h1.2 (show -((toldP m).getD i told0).2.1.1 ≤ 200 from Int.neg_le_of_neg_le ht.2.1))) (by decide)
    have l1 := cl_lk1 hM hd
    have hg8 : 2 + g < 8 := by omega
    exact ⟨(cl_tr hM hd (by decide) (by decide) hg8 l1.1 h3).2, (cl_tr hM hd hg8 (by decide) (by decide) h2 l1.2).2⟩
  · have e2 : tellP (b0P m S i) ((toldP m).getD i told0) = putP (b0P m S i) 0 (2 + ((toldP m).getD i told0).1) ((toldP m).getD i told0).2.1 := if_neg hr
    have h1 := pv (b0P m S i) 0 (2 + ((toldP m).getD i told0).1) ((toldP m).getD i told0).2.1 (by omega)
    rw [← e2, hgt] at h1
    have h2 : tightB m S 0 (2 + g) < never := Int.lt_of_le_of_lt (Int.le_trans (hle 0 (2 + g)) (Int.le_trans h1.1 ht.2.2.2)) (by decide)
    have h3 : tightB m S (2 + g) 0 < never := Int.lt_of_le_of_lt (Int.le_trans (hle (2 + g) 0) (Int.le_trans h1.2 (show -((toldP m).getD i told0).2.1.1 ≤ 200 from Int.neg_le_of_neg_le ht.2.1))) (by decide)
    exact ⟨h2, h3⟩
theorem cl_eq {m : Meas} (hM : MeasOk m) {S : Nat} (hd : diagOk (tightB m S)) {i k : Nat} {B : Int} (hi : i < 8) (hk : k < 8) (h1 : Lk (tightB m S) i) (h2 : Lk (tightB m S) k)
    (hu : ∀ p, TruthP m S p → p k - p i ≤ B) (he : ∃ p, TruthP m S p ∧ p k - p i = B) : tightB m S i k = B := by
  obtain ⟨u, p, hp, hpe⟩ := cl_max hM hd hi hk h1 h2
  obtain ⟨q, hq, hqe⟩ := he
  have := hu p hp
  have := u q hq
  omega

/-! ### The least and the greatest of some spans -/
def mmTo (f : Nat → Int × Int) (o : Int × Int) (n : Nat) : Int × Int := (List.range n).foldl (fun o j => (min o.1 (f j).1, max o.2 (f j).2)) o
theorem mmTo_succ (f : Nat → Int × Int) (o : Int × Int) (n : Nat) : mmTo f o (n + 1) = (min (mmTo f o n).1 (f n).1, max (mmTo f o n).2 (f n).2) := range_foldl_succ _ _ _
theorem mm_spec (f : Nat → Int × Int) (o : Int × Int) : ∀ n, ((mmTo f o n).1 ≤ o.1 ∧ o.2 ≤ (mmTo f o n).2) ∧ (∀ j, j < n → (mmTo f o n).1 ≤ (f j).1 ∧ (f j).2 ≤ (mmTo f o n).2) ∧
    ((mmTo f o n).1 = o.1 ∨ ∃ j, j < n ∧ (mmTo f o n).1 = (f j).1) ∧ ((mmTo f o n).2 = o.2 ∨ ∃ j, j < n ∧ (mmTo f o n).2 = (f j).2)
  | 0 => ⟨⟨Int.le_refl _, Int.le_refl _⟩, fun j hj => absurd hj (by omega), .inl rfl, .inl rfl⟩
  | n + 1 => by
    obtain ⟨h1, h2, h3, h4⟩ := mm_spec f o n
    rw [mmTo_succ]
    refine ⟨⟨by simp only; omega, by simp only; omega⟩, fun j hj => ?_, ?_, ?_⟩
    · rcases Nat.lt_or_ge j n with hl | hl
      · have := h2 j hl; exact ⟨by simp only; omega, by simp only; omega⟩
      · obtain rfl : j = n := by omega
        exact ⟨by simp only; omega, by simp only; omega⟩
    · simp only
      by_cases hc : (mmTo f o n).1 ≤ (f n).1
      · rw [show min (mmTo f o n).1 (f n).1 = (mmTo f o n).1 from by omega]
        rcases h3 with h | ⟨j, hj, h⟩
        · exact .inl h
        · exact .inr ⟨j, by omega, h⟩
      · exact .inr ⟨n, by omega, by omega⟩
    · simp only
      by_cases hc : (f n).2 ≤ (mmTo f o n).2
      · rw [show max (mmTo f o n).2 (f n).2 = (mmTo f o n).2 from by omega]
        rcases h4 with h | ⟨j, hj, h⟩
        · exact .inl h
        · exact .inr ⟨j, by omega, h⟩
      · exact .inr ⟨n, by omega, by omega⟩

def sumsN (m : Meas) (S : Nat) : Nat := ((sumsF m S).2 - (sumsF m S).1 + 1).toNat
/-- The document's place of an image, and its distance of two: all sums are gone through. -/
def placeF (m : Meas) (S : Nat) (g : Int) : Int × Int := mmTo (fun j => placesF m S g ((sumsF m S).1 + j)) (placesF m S g (sumsF m S).1) (sumsN m S)
theorem places_ok {m : Meas} (hM : MeasOk m) {S : Nat} {s : Int} (hs : (sumsF m S).1 ≤ s ∧ s ≤ (sumsF m S).2) {g : Nat} (hg : g < m.images.toNat) : (placesF m S (g : Nat) s).1 ≤ (placesF m S (g : Nat) s).2 := ((sums_iff hM).1 hs).2 g hg
theorem truth_places {m : Meas} (hM : MeasOk m) {S : Nat} {p : Nat → Int} (hp : TruthP m S p) {g : Nat} (h : hasS m S g) : (placesF m S (g : Nat) (p 1 - p 0)).1 ≤ p (2 + g) - p 0 ∧ p (2 + g) - p 0 ≤ (placesF m S (g : Nat) (p 1 - p 0)).2 := by
  obtain ⟨x, hx, he⟩ := (of_truth hM hp).2 g
  rw [he h] at hx; exact hx
theorem sum_at {m : Meas} (hM : MeasOk m) {S : Nat} {p : Nat → Int} (hp : TruthP m S p) : ∃ j : Nat, j < sumsN m S ∧ p 1 - p 0 = (sumsF m S).1 + j := by
  have h := (sums_truth hM (S := S)).2 ⟨p, hp, rfl⟩
  exact ⟨(p 1 - p 0 - (sumsF m S).1).toNat, by unfold sumsN; omega, by omega⟩

theorem spanB_2 (b : BMat) (f t : Nat) : (spanB b f t).2 = b f t := rfl
theorem placeF_spec (m : Meas) (S : Nat) (g : Int) (hn : 0 < sumsN m S) : (∀ j, j < sumsN m S → (placeF m S g).1 ≤ (placesF m S g ((sumsF m S).1 + j)).1 ∧ (placesF m S g ((sumsF m S).1 + j)).2 ≤ (placeF m S g).2) ∧
    (∃ j, j < sumsN m S ∧ (placeF m S g).1 = (placesF m S g ((sumsF m S).1 + j)).1) ∧ ∃ j, j < sumsN m S ∧ (placeF m S g).2 = (placesF m S g ((sumsF m S).1 + j)).2 := by
  obtain ⟨_, h2, h3, h4⟩ := mm_spec (fun j => placesF m S g ((sumsF m S).1 + j)) (placesF m S g (sumsF m S).1) (sumsN m S)
  have e0 : (sumsF m S).1 + ((0 : Nat) : Int) = (sumsF m S).1 := Int.add_zero _
  refine ⟨h2, ?_, ?_⟩
  · rcases h3 with h3 | h3
    · exact ⟨0, hn, by rw [e0]; exact h3⟩
    · exact h3
  · rcases h4 with h4 | h4
    · exact ⟨0, hn, by rw [e0]; exact h4⟩
    · exact h4
theorem sumsN_pos {m : Meas} (hM : MeasOk m) {S : Nat} (hd : diagOk (tightB m S)) : 0 < sumsN m S := by
  have hle := (can_eq hM S).1 hd
  unfold sumsN; omega
theorem sumsN_lt {m : Meas} {S j : Nat} (hj : j < sumsN m S) : (sumsF m S).1 ≤ (sumsF m S).1 + j ∧ (sumsF m S).1 + j ≤ (sumsF m S).2 := by
  unfold sumsN at hj; omega
theorem at_place {m : Meas} (hM : MeasOk m) {S j : Nat} (hj : j < sumsN m S) {g : Nat} (hg : g < m.images.toNat) {x : Int} (h1 : (placesF m S (g : Nat) ((sumsF m S).1 + j)).1 ≤ x) (h2 : x ≤ (placesF m S (g : Nat) ((sumsF m S).1 + j)).2) : ∃ p, TruthP m S p ∧ p (2 + g) - p 0 = x := by
  obtain ⟨p, hp, _, e, _⟩ := place_truth hM (sumsN_lt hj) hg hg ⟨h1, h2⟩ ⟨h1, h2⟩ (fun _ => rfl)
  exact ⟨p, hp, e⟩
theorem neg_flip {a b c : Int} (h : a - b = c) : b - a = -c := by omega
theorem neg_le_flip {a b c : Int} (h : c ≤ a - b) : b - a ≤ -c := by omega
theorem img8 {m : Meas} (hM : MeasOk m) {g : Nat} (hg : g < m.images.toNat) : 2 + g < 8 := by have := hM.i; omega
theorem place_eq {m : Meas} (hM : MeasOk m) {S : Nat} (hd : diagOk (tightB m S)) {g : Nat} (hg : g < m.images.toNat) (h : hasS m S g) : spanB (tightB m S) 0 (2 + g) = placeF m S (g : Nat) := by
  have hg8 := img8 hM hg
  have hlk := lk_has hM hd h
  obtain ⟨h2, ⟨j1, hj1, e1⟩, j2, hj2, e2⟩ := placeF_spec m S (g : Nat) (sumsN_pos hM hd)
  refine Prod.ext ?_ ?_
  · show -tightB m S (2 + g) 0 = _
    refine (congrArg Neg.neg (cl_eq hM hd (B := -(placeF m S (g : Nat)).1) hg8 (by decide) hlk (cl_lk0 hM hd) (fun p hp => ?_) ?_)).trans (Int.neg_neg _)
    · obtain ⟨j, hj, hje⟩ := sum_at hM hp
      have a := (truth_places hM hp h).1
      rw [hje] at a
      exact neg_le_flip (Int.le_trans (h2 j hj).1 a)
    · rw [e1]
      obtain ⟨p, hp, he⟩ := at_place hM hj1 hg (Int.le_refl _) (places_ok hM (sumsN_lt hj1) hg)
      exact ⟨p, hp, neg_flip he⟩
  · rw [spanB_2]
    refine cl_eq hM hd (by decide) hg8 (cl_lk0 hM hd) hlk (fun p hp => ?_) ?_
    · obtain ⟨j, hj, hje⟩ := sum_at hM hp
      have a := (truth_places hM hp h).2
      rw [hje] at a
      exact Int.le_trans a (h2 j hj).2
    · rw [e2]
      exact at_place hM hj2 hg (places_ok hM (sumsN_lt hj2) hg) (Int.le_refl _)

end Go.Proofs.Ytlcdohhhhlhpmaa.Scr
namespace Go.Proofs.Ytlcdohhhhlhpmaa.Scr
open ZW

/-! ### Sum, Place, Apart -/
def sumE (m : Meas) : (Int × Int) × Int := if ¬ MeasOk m then ((0, 0), 1) else if ¬ diagOk (tightB m (fullS m)) then ((0, 0), 10) else (spanB (tightB m (fullS m)) 0 1, 0)
def placeE (m : Meas) (a : Int) : (Int × Int) × Int := if ¬ MeasOk m then ((0, 0), 1) else if ¬ (0 ≤ a ∧ a ≤ m.images - 1) then ((0, 0), 2) else if ¬ diagOk (tightB m (fullS m)) then ((0, 0), 10)
  else if ¬ seenP m a then ((0, 0), 12) else (spanB (tightB m (fullS m)) 0 (2 + a.toNat), 0)
theorem place_any (y : Loc) (m : Meas) (a : Int) (w : World) (hm : InM w y m) : Calls Try.prog 50 [.agg (measC y m).toArray, i64 a].toArray w (Ret w (outC (placeE m a))) := by
  unfold placeE
  by_cases hM : MeasOk m
  · rw [if_neg (not_not_intro hM)]
    by_cases hI : 0 ≤ a ∧ a ≤ m.images - 1
    · rw [if_neg (not_not_intro hI)]
      by_cases hd : diagOk (tightB m (fullS m))
      · rw [if_neg (not_not_intro hd)]
        by_cases hs : seenP m a
        · rw [if_neg (not_not_intro hs)]; exact place_0 y m a w hm hM hI hd hs
        · rw [if_pos hs]; exact place_12 y m a w hm hM hI hd hs
      · rw [if_pos hd]; exact place_10 y m a w hm hM hI hd
    · rw [if_pos hI]; exact place_2 y m a w hm hM hI
  · rw [if_pos hM]; exact place_1 y m a w hm hM
/-! ### The same, by the document's functions -/
def okF (m : Meas) : Prop := (sumsF m (fullS m)).1 ≤ (sumsF m (fullS m)).2
instance (m : Meas) : Decidable (okF m) := inferInstanceAs (Decidable (_ ≤ _))
def sumR (m : Meas) : (Int × Int) × Int := if ¬ MeasOk m then ((0, 0), 1) else if ¬ okF m then ((0, 0), 10) else (sumsF m (fullS m), 0)
def placeR (m : Meas) (a : Int) : (Int × Int) × Int := if ¬ MeasOk m then ((0, 0), 1) else if ¬ (0 ≤ a ∧ a ≤ m.images - 1) then ((0, 0), 2) else if ¬ okF m then ((0, 0), 10)
  else if ¬ seenP m a then ((0, 0), 12) else (placeF m (fullS m) a, 0)
theorem sumE_eq (m : Meas) : sumE m = sumR m := by
  unfold sumE sumR okF
  by_cases hM : MeasOk m
  · rw [if_neg (not_not_intro hM), if_neg (not_not_intro hM)]
    by_cases hd : diagOk (tightB m (fullS m))
    · rw [if_neg (not_not_intro hd), if_neg (not_not_intro ((can_eq hM _).1 hd)), sum_eq hM hd]
    · rw [if_pos hd, if_pos fun h => hd ((can_eq hM _).2 h)]
  · rw [if_pos hM, if_pos hM]
theorem placeE_eq (m : Meas) (a : Int) : placeE m a = placeR m a := by
  unfold placeE placeR okF
  by_cases hM : MeasOk m
  · rw [if_neg (not_not_intro hM), if_neg (not_not_intro hM)]
    by_cases hI : 0 ≤ a ∧ a ≤ m.images - 1
    · rw [if_neg (not_not_intro hI), if_neg (not_not_intro hI)]
      by_cases hd : diagOk (tightB m (fullS m))
      · rw [if_neg (not_not_intro hd), if_neg (not_not_intro ((can_eq hM _).1 hd))]
        by_cases hs : seenP m a
        · rw [if_neg (not_not_intro hs), if_neg (not_not_intro hs)]
          have ha : ((a.toNat : Nat) : Int) = a := Int.toNat_of_nonneg hI.1
          have hs' : seenP m ((a.toNat : Nat) : Int) := by rw [ha]; exact hs
          have := place_eq hM hd (g := a.toNat) (by omega) (seen_has hs')
          rw [this, ha]
        · rw [if_pos hs, if_pos hs]
      · rw [if_pos hd, if_pos fun h => hd ((can_eq hM _).2 h)]
    · rw [if_pos hI, if_pos hI]
  · rw [if_pos hM, if_pos hM]
/-! ### The document's examples -/
def sets4 : List (Int × Int × Bool) := [(0, 500, false), (0, 2504, true), (1, 1200, false), (1, 1788, true)]
def sampleM (l : List (Int × Int × Bool)) : Meas := { errs := [(-2, 2), (0, 5), (1, 1), (-4, 0)], eye := (-3, 3), images := 2, sum := (2900, 3100), sets := l }
abbrev sam : Meas := sampleM sets4
theorem v_place1 : placeE sam 1 = ((1201, 1208), 0) := (placeE_eq _ _).trans (by kernel_rfl)
end Go.Proofs.Ytlcdohhhhlhpmaa.Scr
