/-
  Plain law of links: bounds between each two of N numbers, made as close as can be by way of each number. F: more than all bounds.
-/
import Derived.Test.YtiaaidcdoenloaaGr
namespace ZW

abbrev FMat := Nat → Nat → Int
def fUpd (b : FMat) (i k : Nat) (v : Int) : FMat := fun x y => if x = i ∧ y = k then v else b x y
def fStep (F : Int) (j : Nat) (b : FMat) (i k : Nat) : FMat := if b i j < F ∧ b j k < F then fUpd b i k (min (b i k) (b i j + b j k)) else b
def fRow (F : Int) (j : Nat) (b : FMat) (i n : Nat) : FMat := (List.range n).foldl (fun b k => fStep F j b i k) b
def fRound (F : Int) (N : Nat) (b : FMat) (j n : Nat) : FMat := (List.range n).foldl (fun b i => fRow F j b i N) b
def fClose (F : Int) (N : Nat) (b : FMat) (n : Nat) : FMat := (List.range n).foldl (fun b j => fRound F N b j N) b
theorem frange_succ {α : Type} (f : α → Nat → α) (x : α) (n : Nat) : (List.range (n + 1)).foldl f x = f ((List.range n).foldl f x) n := by
  rw [List.range_succ, List.foldl_append]; rfl
theorem fRow_succ (F : Int) (j : Nat) (b : FMat) (i n : Nat) : fRow F j b i (n + 1) = fStep F j (fRow F j b i n) i n := frange_succ _ _ _
theorem fRound_succ (F : Int) (N : Nat) (b : FMat) (j n : Nat) : fRound F N b j (n + 1) = fRow F j (fRound F N b j n) n N := frange_succ _ _ _
theorem fClose_succ (F : Int) (N : Nat) (b : FMat) (n : Nat) : fClose F N b (n + 1) = fRound F N (fClose F N b n) n N := frange_succ _ _ _

/-! ### Bounds only become closer -/
section
variable {F : Int} {N : Nat}
theorem fStep_le (j : Nat) (b : FMat) (i k x y : Nat) : fStep F j b i k x y ≤ b x y := by
  unfold fStep
  split
  · unfold fUpd
    split
    · rename_i he; obtain ⟨rfl, rfl⟩ := he; omega
    · omega
  · omega
theorem fRow_le (j : Nat) (b : FMat) (i x y : Nat) : ∀ n, fRow F j b i n x y ≤ b x y
  | 0 => Int.le_refl _
  | n + 1 => by rw [fRow_succ]; exact Int.le_trans (fStep_le _ _ _ _ _ _) (fRow_le j b i x y n)
theorem fRound_le (b : FMat) (j x y : Nat) : ∀ n, fRound F N b j n x y ≤ b x y
  | 0 => Int.le_refl _
  | n + 1 => by rw [fRound_succ]; exact Int.le_trans (fRow_le _ _ _ _ _ _) (fRound_le b j x y n)
theorem fClose_le (b : FMat) (x y : Nat) : ∀ n, fClose F N b n x y ≤ b x y
  | 0 => Int.le_refl _
  | n + 1 => by rw [fClose_succ]; exact Int.le_trans (fRound_le _ _ _ _ _) (fClose_le b x y n)
theorem fClose_mono (b : FMat) (x y : Nat) : ∀ k n, fClose F N b (n + k) x y ≤ fClose F N b n x y
  | 0, _ => Int.le_refl _
  | k + 1, n => by rw [← Nat.add_assoc, fClose_succ]; exact Int.le_trans (fRound_le _ _ _ _ _) (fClose_mono b x y k n)

/-! ### Each bound is a way's length -/
def FReal (F : Int) (l : List Lnk) (b : FMat) : Prop := ∀ i k, b i k = F ∨ ∃ r, Ch l i r k ∧ way r = b i k
theorem FReal.step {l : List Lnk} {b : FMat} (h : FReal F l b) (j i k : Nat) : FReal F l (fStep F j b i k) := by
  unfold fStep
  split
  · rename_i hc
    intro x y
    unfold fUpd
    split
    · rename_i he
      obtain ⟨rfl, rfl⟩ := he
      obtain ⟨r1, c1, w1⟩ := (h x j).resolve_left (by omega)
      obtain ⟨r2, c2, w2⟩ := (h j y).resolve_left (by omega)
      by_cases hm : b x y ≤ b x j + b j y
      · rw [Int.min_eq_left hm]; exact h x y
      · rw [Int.min_eq_right (by omega)]
        exact .inr ⟨r1 ++ r2, Ch.app.2 ⟨j, c1, c2⟩, by rw [way_app, w1, w2]⟩
    · exact h x y
  · exact h
theorem FReal.row {l : List Lnk} {b : FMat} (h : FReal F l b) (j i : Nat) : ∀ n, FReal F l (fRow F j b i n)
  | 0 => h
  | n + 1 => by rw [fRow_succ]; exact (FReal.row h j i n).step j i n
theorem FReal.round {l : List Lnk} {b : FMat} (h : FReal F l b) (j : Nat) : ∀ n, FReal F l (fRound F N b j n)
  | 0 => h
  | n + 1 => by rw [fRound_succ]; exact (FReal.round h j n).row j n N
theorem FReal.close {l : List Lnk} {b : FMat} (h : FReal F l b) : ∀ n, FReal F l (fClose F N b n)
  | 0 => h
  | n + 1 => by rw [fClose_succ]; exact (FReal.close h n).round n N

/-! ### A round, if a number is not before itself -/
def fRf (F : Int) (b : FMat) (j i k : Nat) : Int := if b i j < F ∧ b j k < F then min (b i k) (b i j + b j k) else b i k
structure FRI (F : Int) (N : Nat) (b : FMat) (j r s : Nat) (c : FMat) : Prop where
  old : ∀ i k, i < N → k < N → (r < i ∨ r = i ∧ s ≤ k) → c i k = b i k
  new : ∀ i k, i < N → k < N → (i < r ∨ i = r ∧ k < s) → c i k = fRf F b j i k
theorem fRf_row {b : FMat} {j k : Nat} (hd : 0 ≤ b j j) : fRf F b j j k = b j k := by
  unfold fRf; split <;> omega
theorem fRf_col {b : FMat} {j i : Nat} (hd : 0 ≤ b j j) : fRf F b j i j = b i j := by
  unfold fRf; split <;> omega
theorem FRI.row {b c : FMat} {j r s : Nat} (h : FRI F N b j r s c) (hd : 0 ≤ b j j) (hj : j < N) {k : Nat} (hk : k < N) : c j k = b j k := by
  by_cases hc : r < j ∨ r = j ∧ s ≤ k
  · exact h.old j k hj hk hc
  · rw [h.new j k hj hk (by omega), fRf_row hd]
theorem FRI.col {b c : FMat} {j r s : Nat} (h : FRI F N b j r s c) (hd : 0 ≤ b j j) (hj : j < N) {i : Nat} (hi : i < N) : c i j = b i j := by
  by_cases hc : r < i ∨ r = i ∧ s ≤ j
  · exact h.old i j hi hj hc
  · rw [h.new i j hi hj (by omega), fRf_col hd]
theorem FRI.step {b c : FMat} {j r s : Nat} (h : FRI F N b j r s c) (hd : 0 ≤ b j j) (hj : j < N) (hr : r < N) (hs : s < N) : FRI F N b j r (s + 1) (fStep F j c r s) := by
  have h1 := h.col hd hj hr
  have h2 := h.row hd hj hs
  have h3 := h.old r s hr hs (by omega)
  have hv : ∀ i k, fStep F j c r s i k = if i = r ∧ k = s then fRf F b j r s else c i k := by
    intro i k
    unfold fStep fRf
    rw [h1, h2]
    by_cases hc : b r j < F ∧ b j s < F
    · rw [if_pos hc, if_pos hc]
      unfold fUpd
      rw [h3]
    · rw [if_neg hc, if_neg hc]
      by_cases he : i = r ∧ k = s
      · obtain ⟨rfl, rfl⟩ := he; rw [if_pos ⟨rfl, rfl⟩, h3]
      · rw [if_neg he]
  refine ⟨fun i k hi hk hc => ?_, fun i k hi hk hc => ?_⟩
  · rw [hv, if_neg (by omega)]; exact h.old i k hi hk (by omega)
  · rw [hv]
    by_cases he : i = r ∧ k = s
    · obtain ⟨rfl, rfl⟩ := he; rw [if_pos ⟨rfl, rfl⟩]
    · rw [if_neg he]; exact h.new i k hi hk (by omega)
theorem FRI.rowP {b c : FMat} {j r : Nat} (h : FRI F N b j r 0 c) (hd : 0 ≤ b j j) (hj : j < N) (hr : r < N) : ∀ n, n ≤ N → FRI F N b j r n (fRow F j c r n)
  | 0, _ => h
  | n + 1, hn => by rw [fRow_succ]; exact (FRI.rowP h hd hj hr n (by omega)).step hd hj hr (by omega)
theorem FRI.round {b : FMat} {j : Nat} (hd : 0 ≤ b j j) (hj : j < N) : ∀ n, n ≤ N → FRI F N b j n 0 (fRound F N b j n)
  | 0, _ => ⟨fun _ _ _ _ _ => rfl, fun i k _ _ hc => by omega⟩
  | n + 1, hn => by
    rw [fRound_succ]
    have h := (FRI.round hd hj n (by omega)).rowP hd hj (by omega) N (Nat.le_refl _)
    exact ⟨fun i k hi hk hc => h.old i k hi hk (by omega), fun i k hi hk hc => h.new i k hi hk (by omega)⟩
theorem fRound_eq {b : FMat} {j : Nat} (hd : 0 ≤ b j j) (hj : j < N) {i k : Nat} (hi : i < N) (hk : k < N) : fRound F N b j N i k = fRf F b j i k :=
  (FRI.round hd hj N (Nat.le_refl _)).new i k hi hk (by omega)

/-! ### Ways by numbers that were gone through are no shorter -/
def FTri (F : Int) (N n : Nat) (b : FMat) : Prop := ∀ j i k, j < n → j < N → i < N → k < N → b i j < F → b j k < F → b i k ≤ b i j + b j k
def FFin (F : Int) (N : Nat) (U : Int) (b : FMat) : Prop := ∀ i k, i < N → k < N → b i k < F → b i k ≤ U
theorem fRf_fin {b : FMat} {n i j : Nat} (h : fRf F b n i j < F) : (b i j < F ∧ fRf F b n i j = b i j) ∨ (b i n < F ∧ b n j < F ∧ fRf F b n i j = b i n + b n j) := by
  unfold fRf at h ⊢
  split at h
  · rename_i hc
    rw [if_pos hc]
    by_cases hm : b i j ≤ b i n + b n j
    · left; omega
    · right; omega
  · rename_i hc
    rw [if_neg hc]; exact .inl ⟨h, rfl⟩
theorem fRf_le (b : FMat) (n i k : Nat) : fRf F b n i k ≤ b i k := by unfold fRf; split <;> omega
theorem fRf_le2 {b : FMat} {n i k : Nat} (h1 : b i n < F) (h2 : b n k < F) : fRf F b n i k ≤ b i n + b n k := by unfold fRf; rw [if_pos ⟨h1, h2⟩]; omega
theorem FTri.rf {n : Nat} {b : FMat} {U : Int} (h : FTri F N n b) (hn : n < N) (hd : 0 ≤ b n n) (hU : FFin F N U b) (h2 : 2 * U < F) : FTri F N (n + 1) (fRf F b n) := by
  intro j i k hj hj8 hi hk h1 h3
  rcases Nat.lt_or_ge j n with hlt | hge
  · rcases fRf_fin h1 with ⟨f1, e1⟩ | ⟨f1, f1', e1⟩ <;> rcases fRf_fin h3 with ⟨f3, e3⟩ | ⟨f3, f3', e3⟩
    · have := h j i k hlt hj8 hi hk f1 f3
      have := fRf_le (F := F) b n i k
      omega
    · have t := h j i n hlt hj8 hi hn f1 f3
      have u1 := hU i j hi hj8 f1
      have u2 := hU j n hj8 hn f3
      have := fRf_le2 (b := b) (n := n) (i := i) (k := k) (by omega) f3'
      omega
    · have t := h j n k hlt hj8 hn hk f1' f3
      have u1 := hU n j hn hj8 f1'
      have u2 := hU j k hj8 hk f3
      have := fRf_le2 (b := b) (n := n) (i := i) (k := k) f1 (by omega)
      omega
    · have t := h j n n hlt hj8 hn hn f1' f3
      have := fRf_le2 (b := b) (n := n) (i := i) (k := k) f1 f3'
      omega
  · obtain rfl : j = n := by omega
    rw [fRf_col hd] at h1 ⊢
    rw [fRf_row hd] at h3 ⊢
    exact fRf_le2 h1 h3
theorem FFin.rf {n : Nat} {b : FMat} {U : Int} (hn : n < N) (hU : FFin F N U b) (h0 : 0 ≤ U) : FFin F N (2 * U) (fRf F b n) := by
  intro i k hi hk h
  rcases fRf_fin h with ⟨f, e⟩ | ⟨f, f', e⟩
  · have := hU i k hi hk f; omega
  · have := hU i n hi hn f
    have := hU n k hn hk f'
    omega
theorem FTri.congr {n : Nat} {b c : FMat} (h : FTri F N n b) (hc : ∀ i k, i < N → k < N → c i k = b i k) : FTri F N n c := by
  intro j i k hj hj8 hi hk
  rw [hc i j hi hj8, hc j k hj8 hk, hc i k hi hk]
  exact h j i k hj hj8 hi hk
theorem FFin.congr {U : Int} {b c : FMat} (h : FFin F N U b) (hc : ∀ i k, i < N → k < N → c i k = b i k) : FFin F N U c := by
  intro i k hi hk
  rw [hc i k hi hk]; exact h i k hi hk
def fDiag (N : Nat) (b : FMat) : Prop := ∀ i, i < N → 0 ≤ b i i
instance (N : Nat) (b : FMat) : Decidable (fDiag N b) := inferInstanceAs (Decidable (∀ i, i < N → 0 ≤ b i i))
theorem fClose_tri {b : FMat} {U : Int} (hU : FFin F N U b) (h0 : 0 ≤ U) (hF : (2 : Int) ^ N * U < F) (hd : fDiag N (fClose F N b N)) : ∀ n, n ≤ N → FTri F N n (fClose F N b n) ∧ FFin F N (2 ^ n * U) (fClose F N b n)
  | 0, _ => ⟨fun j i k hj => absurd hj (by omega), by simpa [fClose] using hU⟩
  | n + 1, hn => by
    obtain ⟨h1, h2⟩ := fClose_tri hU h0 hF hd n (by omega)
    have hnn : 0 ≤ fClose F N b n n n := by
      have h3 := fClose_mono (F := F) (N := N) b n n (N - n) n
      rw [show n + (N - n) = N from by omega] at h3
      have := hd n (by omega)
      omega
    have he : ∀ i k, i < N → k < N → fClose F N b (n + 1) i k = fRf F (fClose F N b n) n i k := fun i k hi hk => by
      rw [fClose_succ]; exact fRound_eq hnn (by omega) hi hk
    have hp : (2 : Int) ^ (n + 1) * U ≤ (2 : Int) ^ N * U ∧ 0 ≤ (2 : Int) ^ n * U := by
      have h4 : 2 ^ (n + 1) ≤ 2 ^ N := Nat.pow_le_pow_right (by omega) hn
      have h5 : ((2 ^ (n + 1) : Nat) : Int) ≤ ((2 ^ N : Nat) : Int) := Int.ofNat_le.2 h4
      simp only [Int.natCast_pow] at h5
      exact ⟨Int.mul_le_mul_of_nonneg_right h5 h0, Int.mul_nonneg (Int.pow_nonneg (by omega)) h0⟩
    have hpow : (2 : Int) ^ (n + 1) * U = 2 * (2 ^ n * U) := by rw [Int.pow_succ]; rw [Int.mul_comm ((2 : Int) ^ n) 2, Int.mul_assoc]
    refine ⟨(h1.rf (by omega) hnn h2 (by omega)).congr he, ?_⟩
    have h6 := (h2.rf (n := n) (by omega) hp.2).congr he
    rw [hpow]
    exact h6
end

/-! ### What bounds tell -/
/-- Bounds that hold a list of links: each link, and from each number to itself nothing; all else is F. -/
structure FHolds (F : Int) (N : Nat) (l : List Lnk) (b : FMat) : Prop where
  real : FReal F l b
  own : ∀ i, i < N → b i i ≤ 0
  link : ∀ x ∈ l, b x.1 x.2.1 ≤ x.2.2
  small : ∀ x ∈ l, x.2.2 < F
  inN : ∀ x ∈ l, x.1 < N ∧ x.2.1 < N
theorem fclose_diag {F : Int} {N : Nat} {l : List Lnk} {b : FMat} (h : FHolds F N l b) (hF : 0 < F) {q : Nat → Int} (hq : Pot l q) : fDiag N (fClose F N b N) := fun i hi => by
  rcases (h.real.close (N := N) N) i i with he | ⟨r, hr, hw⟩
  · omega
  · have := Ch.pot hq hr; omega
/-- From a number: what is known. -/
def rowD (F : Int) (N : Nat) (b : FMat) (s : Nat) : DMap := fun v => if v < N ∧ b s v < F then some (b s v) else none
theorem row_known {F : Int} {N : Nat} {l : List Lnk} {b : FMat} {U : Int} (h : FHolds F N l b) (hU : FFin F N U b) (h0 : 0 ≤ U) (hF : (2 : Int) ^ N * U < F) (hF2 : 2 * ((2 : Int) ^ N * U) < F) (hd : fDiag N (fClose F N b N)) {s : Nat} (hs : s < N) : Best s l (rowD F N (fClose F N b N) s) := by
  obtain ⟨t, f⟩ := fClose_tri hU h0 hF hd N (Nat.le_refl _)
  have hp : 0 ≤ (2 : Int) ^ N * U := Int.mul_nonneg (Int.pow_nonneg (by omega)) h0
  have hlU : ∀ x ∈ l, fClose F N b N x.1 x.2.1 < F → fClose F N b N x.1 x.2.1 ≤ 2 ^ N * U := fun x hx hlt => f _ _ (h.inN x hx).1 (h.inN x hx).2 hlt
  refine ⟨fun x hx a ha => ?_, fun v d hv => ?_, ?_⟩
  · unfold rowD at ha ⊢
    split at ha
    · rename_i hlt
      cases ha
      have hN := h.inN x hx
      have h1 := fClose_le (F := F) (N := N) b x.1 x.2.1 N
      have h2 := h.link x hx
      have h3 := f s x.1 hs hN.1 hlt.2
      have h6 := h.small x hx
      have hw : fClose F N b N x.1 x.2.1 < F := by omega
      have h4 := t x.1 s x.2.1 hN.1 hN.1 hs hN.2 hlt.2 hw
      have h5 := hlU x hx hw
      exact ⟨_, by rw [if_pos ⟨hN.2, by omega⟩], by omega⟩
    · cases ha
  · unfold rowD at hv
    split at hv
    · rename_i hlt
      cases hv
      rcases (h.real.close (N := N) N) s v with he | hr
      · omega
      · exact hr
    · cases hv
  · have h1 := fClose_le (F := F) (N := N) b s s N
    have h2 := h.own s hs
    have h3 := hd s hs
    exact ⟨_, by unfold rowD; rw [if_pos ⟨hs, by omega⟩], by omega⟩
/-- What is known is known once. -/
theorem Best.unique {s : Nat} {l : List Lnk} {m n : DMap} (h : Best s l m) (k : Best s l n) {q : Nat → Int} (hq : Pot l q) : m = n := by
  have way_to : ∀ {m : DMap}, Best s l m → ∀ (r : List Lnk) (u v : Nat) (a : Int), m u = some a → Ch l u r v → ∃ b, m v = some b ∧ b ≤ a + way r := fun {m} h r => by
    induction r with
    | nil => intro u v a ha hc; cases hc; exact ⟨a, ha, by simp [way]⟩
    | cons x r ih =>
      intro u v a ha hc
      obtain ⟨h1, h2, h3⟩ := hc
      obtain ⟨b, hb, hle⟩ := h.still x h1 a (by rw [h2]; exact ha)
      obtain ⟨c, hc, hle2⟩ := ih _ _ b hb h3
      exact ⟨c, hc, by rw [way_cons]; omega⟩
  have one : ∀ {m n : DMap}, Best s l m → Best s l n → ∀ v d, m v = some d → ∃ e, n v = some e ∧ e ≤ d := fun {m n} h k v d hv => by
    obtain ⟨r, hr, hw⟩ := h.real v d hv
    obtain ⟨e, he, hle⟩ := way_to k r s v 0 (k.zero hq) hr
    exact ⟨e, he, by omega⟩
  funext v
  cases hm : m v with
  | none =>
    cases hn : n v with
    | none => rfl
    | some e =>
      obtain ⟨d, hd, _⟩ := one k h v e hn
      rw [hm] at hd; cases hd
  | some d =>
    obtain ⟨e, he, h1⟩ := one h k v d hm
    obtain ⟨d', hd', h2⟩ := one k h v e he
    rw [hm] at hd'; cases hd'
    rw [he, show e = d from by omega]
end ZW
