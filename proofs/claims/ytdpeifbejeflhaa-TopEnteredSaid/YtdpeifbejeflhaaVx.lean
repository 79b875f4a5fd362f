/-
  The plain law: a plate that was entered twice serves once.
-/
import Derived.Test.YtdpeifbejeflhaaVw
namespace Go.Proofs.Ytdpeifbejeflhaa
open ZW

/-! ### Ways are told by the least numbers -/
def CanW (n : Nat) (w : Way) : Prop := ∀ i, i < n → (0 ≤ w i ∧ w i ≤ (i : Nat)) ∧ w (w i).toNat = w i
theorem CanW.step {n i : Nat} {w : Way} (h : CanW n w) (hi : i ≤ n) (hw : ¬ (i < n ∧ w i ≠ (i : Nat))) : CanW (n + 1) (wUp w n (i : Nat)) := fun j hj => by
  rcases Nat.lt_or_ge j n with hl | hl
  · obtain ⟨h1, h2⟩ := h j hl
    rw [wUp_ne w _ (by omega), wUp_ne w _ (by omega)]
    exact ⟨h1, h2⟩
  · obtain rfl : j = n := by omega
    rw [wUp_eq]
    refine ⟨by omega, ?_⟩
    rw [Int.toNat_natCast]
    by_cases hij : i = j
    · subst hij; rw [wUp_eq]
    · rw [wUp_ne w _ hij]
      exact Decidable.of_not_not fun hne => hw ⟨by omega, hne⟩
theorem waysW_can (s : Shl) : ∀ (r n : Nat) (w z : Way), CanW n w → ∀ v ∈ waysW s r n w z, CanW (n + r) v := by
  intro r
  induction r with
  | zero =>
    intro n w z h v hv
    unfold waysW at hv
    split at hv
    · rw [List.mem_singleton] at hv; subst hv; exact h
    · cases hv
  | succ r ih =>
    intro n w z h v hv
    unfold waysW at hv
    obtain ⟨i, hi, hv⟩ := List.mem_flatMap.1 hv
    split at hv
    · rename_i hk
      have := ih (n + 1) _ _ (h.step (by have := List.mem_range.1 hi; omega) hk.1) v hv
      rwa [Nat.add_assoc, Nat.add_comm 1 r] at this
    · cases hv
theorem fst_can {s : Shl} (hcb : canB s = true) : CanW s.n.toNat ((rightW s).getD 0 w0) := by
  have hpos := of_decide_eq_true hcb
  have hm : (rightW s).getD 0 w0 ∈ rightW s := getD_mem hpos w0
  have := waysW_can s s.n.toNat 0 w0 w0 (fun i hi => absurd hi (by omega)) _ (List.mem_filter.1 hm).1
  rwa [Nat.zero_add] at this

/-! ### Plates that are entered twice -/
/-- Each number stands for the least one of its plate. -/
structure Tw (g : Fld) (x : Nat → Nat) : Prop where
  le : ∀ i, i < g.ps.length → x i ≤ i
  idem : ∀ i, i < g.ps.length → x (x i) = x i
  at_ : ∀ i, i < g.ps.length → g.ps.getD (x i) sky0 = g.ps.getD i sky0
theorem Tw.eq {g : Fld} {x : Nat → Nat} (h : Tw g x) {a b : Nat} (ha : a < g.ps.length) (hb : b < g.ps.length) (hx : x a = x b) : g.ps.getD a sky0 = g.ps.getD b sky0 := by
  rw [← h.at_ a ha, hx, h.at_ b hb]
theorem CanG.congr {g t : Int} {D D' : Int → Prop} (h : ∀ d, D d ↔ D' d) : CanG g t D ↔ CanG g t D' := ⟨fun k => k.mono fun d => (h d).1, fun k => k.mono fun d => (h d).2⟩
theorem serv_iff {g : Fld} (hF : FldOk g) (hG : g.times = 1 ∨ 1 ≤ g.gap) (t : Nat) : servB g t = true ↔ CanG g.gap g.times fun d => ∃ i, i < g.ps.length ∧ t.testBit i = true ∧ (g.ps.getD i sky0).day = d := by
  unfold servB
  rw [decide_eq_true_iff, cnt_can hF.t.1 hG (srtI_srt _)]
  exact CanG.congr fun d => by rw [srtI_mem, daysTo_mem]
theorem serv_mono {g : Fld} (hF : FldOk g) (hG : g.times = 1 ∨ 1 ≤ g.gap) {t u : Nat} (h : servB g t = true) (hm : ∀ i, i < g.ps.length → t.testBit i = true → ∃ j, j < g.ps.length ∧ u.testBit j = true ∧ g.ps.getD j sky0 = g.ps.getD i sky0) : servB g u = true := by
  rw [serv_iff hF hG] at h ⊢
  refine h.mono ?_
  rintro d ⟨i, hi, ht, hd⟩
  obtain ⟨j, hj, hu, he⟩ := hm i hi ht
  exact ⟨j, hj, hu, by rw [he]; exact hd⟩
theorem at_bit (g : Fld) (i a : Nat) : (atI g i).testBit a = (decide (a < g.ps.length) && atB g (plP g i).1 (plP g i).2 a) := setB_bit _ _ _
theorem use_bit (g : Fld) (a : Nat) : (useS g).testBit a = (decide (a < g.ps.length) && useB g a) := setB_bit _ _ _
theorem at_use {g : Fld} {a b : Int} {i : Nat} (h : atB g a b i = true) : useB g i = true := by
  unfold atB at h; unfold useB
  rw [decide_eq_true_iff] at h ⊢
  exact h.1
theorem at_same {g : Fld} {a b : Int} {i j : Nat} (h : atB g a b i = true) (he : g.ps.getD j sky0 = g.ps.getD i sky0) : atB g a b j = true := by
  unfold atB at h ⊢; rw [he]; exact h
theorem use_same {g : Fld} {i j : Nat} (h : useB g i = true) (he : g.ps.getD j sky0 = g.ps.getD i sky0) : useB g j = true := by
  unfold useB at h ⊢; rw [he]; exact h
theorem list_mono {g : Fld} (hF : FldOk g) (hG : g.times = 1 ∨ 1 ≤ g.gap) {s u : Nat} (h : listB g s = true) (hm : ∀ a, a < g.ps.length → useB g a = true → s.testBit a = true → ∃ b, b < g.ps.length ∧ u.testBit b = true ∧ g.ps.getD b sky0 = g.ps.getD a sky0) : listB g u = true := by
  unfold listB at h ⊢
  rw [decide_eq_true_iff] at h ⊢
  intro i hi
  refine serv_mono hF hG (h i hi) fun a ha ht => ?_
  rw [Nat.testBit_and, Bool.and_eq_true, at_bit, Bool.and_eq_true] at ht
  obtain ⟨⟨_, hat⟩, hs⟩ := ht
  obtain ⟨b, hb, hu, he⟩ := hm a ha (at_use hat) hs
  exact ⟨b, hb, by rw [Nat.testBit_and, at_bit, at_same hat he, hu, decide_eq_true hb]; rfl, he⟩
section
variable {g : Fld} {x : Nat → Nat}
abbrev leastN (x : Nat → Nat) (n : Nat) : Nat := setB (fun i => decide (x i = i)) n
theorem list_use (hF : FldOk g) (hG : g.times = 1 ∨ 1 ≤ g.gap) {s : Nat} (h : listB g s = true) : listB g (useS g) = true :=
  list_mono hF hG h fun a ha hu _ => ⟨a, ha, by rw [use_bit, hu, decide_eq_true ha]; rfl, rfl⟩
theorem list_least (hF : FldOk g) (hG : g.times = 1 ∨ 1 ≤ g.gap) (hx : Tw g x) : listB g (useS g) = true ↔ listB g (leastN x g.ps.length) = true :=
  ⟨fun h => list_mono hF hG h fun a ha _ _ => ⟨x a, by have := hx.le a ha; omega, by rw [setB_bit, decide_eq_true (show x a < g.ps.length by have := hx.le a ha; omega), decide_eq_true (hx.idem a ha)]; rfl, hx.at_ a ha⟩, list_use hF hG⟩
theorem good_use (hF : FldOk g) (hG : g.times = 1 ∨ 1 ≤ g.gap) {s : Nat} (h : goodB g s = true) : listB g (useS g) = true := by
  unfold goodB at h
  rw [Bool.and_eq_true] at h
  exact list_use hF hG h.2
theorem use_good (h : listB g (useS g) = true) : goodB g (useS g) = true := by
  unfold goodB
  rw [h, decide_eq_true (subS_iff.2 fun _ h => h)]; rfl
/-- No list: all is told so. -/
theorem none_law (hF : FldOk g) (hG : g.times = 1 ∨ 1 ≤ g.gap) (h : ¬ listB g (useS g) = true) : shortE g = (0, 4) ∧ needE g = (0, 4) := by
  refine ⟨?_, if_neg h⟩
  unfold shortE
  have hb := bestS_spec (goodB g) (fullF g + 1)
  cases hc : bestS (goodB g) (fullF g + 1) with
  | none => rfl
  | some b => rw [hc] at hb; exact absurd (good_use hF hG hb.2.1) h
/-- What the shortest list is. -/
structure BestL (g : Fld) (b : Nat) : Prop where
  e : shortE g = (((b : Nat) : Int), 0)
  le : b ≤ fullF g
  good : goodB g b = true
  min : ∀ s, s ≤ fullF g → goodB g s = true → popc b ≤ popc s
theorem some_law (h : listB g (useS g) = true) : ∃ b, BestL g b ∧ needE g = (((setB (needB g) g.ps.length : Nat) : Int), 0) := by
  have hb := bestS_spec (goodB g) (fullF g + 1)
  cases hc : bestS (goodB g) (fullF g + 1) with
  | none => rw [hc] at hb; have := hb _ (Nat.lt_succ_of_le (useS_full g)); rw [use_good h] at this; cases this
  | some b =>
    rw [hc] at hb
    obtain ⟨h1, h2, h3⟩ := hb
    exact ⟨b, ⟨by unfold shortE; rw [hc], by omega, h2, fun s hs hg => by rcases h3 s (by omega) hg with h | h <;> omega⟩, if_pos h⟩
theorem popF_or : ∀ (f o k : Nat), k < f → o.testBit k = false → popF f (o ||| 2 ^ k) = popF f o + 1
  | 0, _, _, h, _ => absurd h (by omega)
  | f + 1, o, 0, _, h => by
    show (o ||| 2 ^ 0) % 2 + popF f ((o ||| 2 ^ 0) / 2) = o % 2 + popF f (o / 2) + 1
    have h1 : (o ||| 2 ^ 0).testBit 0 = true := by rw [Nat.testBit_or, Nat.testBit_two_pow]; simp
    rw [Nat.testBit_zero, decide_eq_true_eq] at h1
    rw [Nat.testBit_zero, decide_eq_false_iff_not] at h
    rw [h1, Nat.or_div_two, show 2 ^ 0 / 2 = 0 from rfl, Nat.or_zero]
    omega
  | f + 1, o, k + 1, hk, h => by
    show (o ||| 2 ^ (k + 1)) % 2 + popF f ((o ||| 2 ^ (k + 1)) / 2) = o % 2 + popF f (o / 2) + 1
    have h1 : (o ||| 2 ^ (k + 1)).testBit 0 = o.testBit 0 := by rw [Nat.testBit_or, Nat.testBit_two_pow]; simp
    rw [Nat.testBit_zero, Nat.testBit_zero, decide_eq_decide] at h1
    have h2 : 2 ^ (k + 1) / 2 = 2 ^ k := by rw [Nat.pow_succ]; omega
    rw [Nat.or_div_two, h2, popF_or f (o / 2) k (by omega) (by rw [← h, Nat.testBit_succ])]
    have := Nat.mod_two_eq_zero_or_one o
    have := Nat.mod_two_eq_zero_or_one (o ||| 2 ^ (k + 1))
    omega
/-- No two numbers of one plate are in the shortest list. -/
theorem best_pair (hF : FldOk g) (hG : g.times = 1 ∨ 1 ≤ g.gap) (hx : Tw g x) {b : Nat} (hb : BestL g b) {i j : Nat} (hi : i < g.ps.length) (hj : j < i) (he : x i = x j) : ¬ (b.testBit i = true ∧ b.testBit j = true) := by
  rintro ⟨h1, h2⟩
  have hgd := hb.good
  unfold goodB at hgd
  rw [Bool.and_eq_true, decide_eq_true_iff, subS_iff] at hgd
  have hls : ∀ k, (less b (2 ^ i)).testBit k = (b.testBit k && !decide (i = k)) := fun k => by rw [less_bit, Nat.testBit_two_pow]
  have hor : less b (2 ^ i) ||| 2 ^ i = b := Nat.eq_of_testBit_eq fun k => by
    rw [Nat.testBit_or, hls, Nat.testBit_two_pow]
    by_cases hk : i = k
    · subst hk; rw [h1]; simp
    · simp [hk]
  have hln := hF.l
  have hpc := popF_or 13 (less b (2 ^ i)) i (by omega) (by rw [hls]; simp)
  rw [hor] at hpc
  have hle : less b (2 ^ i) ≤ fullF g := by
    have : less b (2 ^ i) ≤ b := by
      have h := Nat.left_le_or (n := less b (2 ^ i)) (m := 2 ^ i)
      rwa [hor] at h
    exact Nat.le_trans this hb.le
  have hg2 : goodB g (less b (2 ^ i)) = true := by
    unfold goodB
    rw [Bool.and_eq_true, decide_eq_true_iff, subS_iff]
    refine ⟨fun k hk => hgd.1 k (by rw [hls, Bool.and_eq_true] at hk; exact hk.1), list_mono hF hG hgd.2 fun a ha _ hs => ?_⟩
    by_cases hai : i = a
    · subst hai
      exact ⟨j, by omega, by rw [hls, h2, decide_eq_false (by omega)]; rfl, hx.eq (by omega) hi he.symm⟩
    · exact ⟨a, ha, by rw [hls, hs, decide_eq_false hai]; rfl, rfl⟩
  have := hb.min _ hle hg2
  unfold popc at this
  omega
/-- A number of which the plate has another one is not needed. -/
theorem need_pair (hF : FldOk g) (hG : g.times = 1 ∨ 1 ≤ g.gap) (hx : Tw g x) (h : listB g (useS g) = true) {i j : Nat} (hi : i < g.ps.length) (hj : j < g.ps.length) (hij : i ≠ j) (he : x i = x j) : (setB (needB g) g.ps.length).testBit i = false := by
  rw [setB_bit]
  have hn : needB g i = false := by
    unfold needB
    cases hu : useB g i with
    | false => rfl
    | true =>
      have hl : listB g (less (useS g) (1 * 2 ^ i)) = true := list_mono hF hG h fun a ha hua hs => by
        have hls : ∀ k, (less (useS g) (1 * 2 ^ i)).testBit k = ((useS g).testBit k && !decide (i = k)) := fun k => by rw [less_bit, Nat.one_mul, Nat.testBit_two_pow]
        by_cases hai : i = a
        · subst hai
          have hjs := hx.eq hj hi he.symm
          exact ⟨j, hj, by rw [hls, use_bit, use_same hua hjs, decide_eq_true hj, decide_eq_false hij]; rfl, hjs⟩
        · exact ⟨a, ha, by rw [hls, hs, decide_eq_false hai]; rfl, rfl⟩
      rw [hl]; rfl
  rw [hn, Bool.and_false]
/-- The least numbers of the plates of a list. -/
def ownT (x : Nat → Nat) (b : Nat) : Nat → Nat
  | 0 => 0
  | i + 1 => if b.testBit i = true then ownT x b i ||| 1 * 2 ^ x i else ownT x b i
theorem ownT_bit (x : Nat → Nat) (b k : Nat) : ∀ n, (ownT x b n).testBit k = true ↔ ∃ i, i < n ∧ b.testBit i = true ∧ x i = k
  | 0 => by simp [ownT]
  | n + 1 => by
    have ih := ownT_bit x b k n
    unfold ownT
    split
    · rename_i h
      rw [Nat.testBit_or, Bool.or_eq_true, ih, Nat.one_mul, Nat.testBit_two_pow, decide_eq_true_iff]
      constructor
      · rintro (⟨i, h1, h2, h3⟩ | h1)
        · exact ⟨i, by omega, h2, h3⟩
        · exact ⟨n, by omega, h, h1⟩
      · rintro ⟨i, h1, h2, h3⟩
        by_cases hin : i = n
        · subst hin; exact .inr h3
        · exact .inl ⟨i, by omega, h2, h3⟩
    · rename_i h
      rw [ih]
      constructor
      · rintro ⟨i, h1, h2, h3⟩; exact ⟨i, by omega, h2, h3⟩
      · rintro ⟨i, h1, h2, h3⟩
        by_cases hin : i = n
        · subst hin; exact absurd h2 h
        · exact ⟨i, by omega, h2, h3⟩
theorem ownT_lt {x : Nat → Nat} {b m : Nat} : ∀ n, n ≤ m → (∀ i, i < n → x i ≤ i) → ownT x b n < 2 ^ m
  | 0, _, _ => by simp [ownT, Nat.two_pow_pos]
  | n + 1, hm, h => by
    have ih := ownT_lt (x := x) (b := b) (m := m) n (by omega) fun i hi => h i (by omega)
    unfold ownT
    split
    · refine Nat.or_lt_two_pow ih ?_
      rw [Nat.one_mul]
      have hxn : x n ≤ n := h n (Nat.lt_succ_self n)
      exact Nat.pow_lt_pow_right (show 1 < 2 by omega) (show x n < m by omega)
    · exact ih
theorem own_list (hF : FldOk g) (hG : g.times = 1 ∨ 1 ≤ g.gap) (hx : Tw g x) {b : Nat} (hb : BestL g b) : listB g (ownT x b g.ps.length) = true := by
  have hgd := hb.good
  unfold goodB at hgd
  rw [Bool.and_eq_true] at hgd
  exact list_mono hF hG hgd.2 fun a ha _ hs => ⟨x a, by have := hx.le a ha; omega, (ownT_bit x b _ _).2 ⟨a, ha, hs, rfl⟩, hx.at_ a ha⟩
theorem own_size (hF : FldOk g) (hG : g.times = 1 ∨ 1 ≤ g.gap) (hx : Tw g x) {b : Nat} (hb : BestL g b) : popF 13 (ownT x b g.ps.length) = popF 13 b := by
  have hln := hF.l
  have h : ∀ n, n ≤ g.ps.length → popF 13 (ownT x b n) = popF 13 (setB b.testBit n) := fun n => by
    induction n with
    | zero => intro _; rfl
    | succ n ih =>
      intro hn
      have ih := ih (by omega)
      by_cases hbn : b.testBit n = true
      · have h1 : ownT x b (n + 1) = ownT x b n ||| 2 ^ x n := by
          show (if b.testBit n = true then ownT x b n ||| 1 * 2 ^ x n else ownT x b n) = _
          rw [if_pos hbn, Nat.one_mul]
        have h2 : setB b.testBit (n + 1) = setB b.testBit n ||| 2 ^ n := by
          show (if b.testBit n = true then setB b.testBit n ||| 1 * 2 ^ n else setB b.testBit n) = _
          rw [if_pos hbn, Nat.one_mul]
        have hxn := hx.le n (by omega)
        rw [h1, h2, popF_or 13 _ _ (by omega), popF_or 13 _ _ (by omega), ih]
        · rw [setB_bit]; simp
        · cases hc : (ownT x b n).testBit (x n) with
          | false => rfl
          | true =>
            obtain ⟨i, hi, hbi, hxi⟩ := (ownT_bit x b _ _).1 hc
            exact absurd ⟨hbn, hbi⟩ (best_pair hF hG hx hb (by omega) hi hxi.symm)
      · have h1 : ownT x b (n + 1) = ownT x b n := by
          show (if b.testBit n = true then ownT x b n ||| 1 * 2 ^ x n else ownT x b n) = _
          rw [if_neg hbn]
        have h2 : setB b.testBit (n + 1) = setB b.testBit n := by
          show (if b.testBit n = true then setB b.testBit n ||| 1 * 2 ^ n else setB b.testBit n) = _
          rw [if_neg hbn]
        rw [h1, h2, ih]
  rw [h _ (Nat.le_refl _)]
  congr 1
  refine Nat.eq_of_testBit_eq fun k => ?_
  rw [setB_bit]
  by_cases hk : k < g.ps.length
  · rw [decide_eq_true hk]; rfl
  · have hlt : b < 2 ^ k := by
      have h1 := hb.le
      have h2 := Nat.two_pow_pos g.ps.length
      have h3 : 2 ^ g.ps.length ≤ 2 ^ k := Nat.pow_le_pow_right (by omega) (by omega)
      unfold fullF at h1
      omega
    rw [decide_eq_false hk, Nat.testBit_lt_two_pow hlt]; rfl
end
end Go.Proofs.Ytdpeifbejeflhaa
