/-
  Plain law of watches: the document's bounds say the same.
-/
import Derived.Test.YtiaaidcdoenloaaQm
namespace Go.Proofs.Ytiaaidcdoenloaa
open ZW

theorem bnd_le : ∀ (l : List Lnk) (b : FMat) (i k : Nat), bndM l b i k ≤ b i k
  | [], _, _, _ => Int.le_refl _
  | x :: l, b, i, k => by
    have h := bnd_le l (fUpd b x.1 x.2.1 (min (b x.1 x.2.1) x.2.2)) i k
    have h2 : fUpd b x.1 x.2.1 (min (b x.1 x.2.1) x.2.2) i k ≤ b i k := by
      unfold fUpd
      split
      · rename_i he; obtain ⟨rfl, rfl⟩ := he; omega
      · omega
    exact Int.le_trans h h2
theorem bnd_link : ∀ (l : List Lnk) (b : FMat) (x : Lnk), x ∈ l → bndM l b x.1 x.2.1 ≤ x.2.2
  | [], _, x, hx => by simp at hx
  | y :: l, b, x, hx => by
    rcases List.mem_cons.1 hx with rfl | hx
    · have h := bnd_le l (fUpd b x.1 x.2.1 (min (b x.1 x.2.1) x.2.2)) x.1 x.2.1
      have h2 : fUpd b x.1 x.2.1 (min (b x.1 x.2.1) x.2.2) x.1 x.2.1 ≤ x.2.2 := by
        unfold fUpd; rw [if_pos ⟨rfl, rfl⟩]; omega
      exact Int.le_trans h h2
    · exact bnd_link l _ x hx
theorem bnd_real {L : List Lnk} : ∀ (l : List Lnk) (b : FMat), (∀ x ∈ l, x ∈ L) → FReal farF L b → FReal farF L (bndM l b)
  | [], _, _, h => h
  | x :: l, b, hl, h => by
    refine bnd_real l _ (fun y hy => hl y (List.mem_cons_of_mem _ hy)) fun i k => ?_
    show fUpd b x.1 x.2.1 (min (b x.1 x.2.1) x.2.2) i k = farF ∨ ∃ r, Ch L i r k ∧ way r = fUpd b x.1 x.2.1 (min (b x.1 x.2.1) x.2.2) i k
    unfold fUpd
    split
    · rename_i he
      obtain ⟨rfl, rfl⟩ := he
      by_cases hm : b x.1 x.2.1 ≤ x.2.2
      · rw [Int.min_eq_left hm]; exact h x.1 x.2.1
      · rw [Int.min_eq_right (by omega)]
        exact .inr ⟨[x], ⟨hl x (List.mem_cons_self ..), rfl, rfl⟩, by simp [way]⟩
    · exact h i k
theorem mat0_real (L : List Lnk) : FReal farF L mat0 := fun i k => by
  unfold mat0
  by_cases h : i = k
  · rw [if_pos h]; exact .inr ⟨[], h, rfl⟩
  · rw [if_neg h]; exact .inl rfl
theorem bnd_fin (N : Nat) : ∀ (l : List Lnk) (b : FMat), (∀ x ∈ l, x.2.2 ≤ 50000) → FFin farF N 50000 b → FFin farF N 50000 (bndM l b)
  | [], _, _, h => h
  | x :: l, b, hl, h => by
    refine bnd_fin N l _ (fun y hy => hl y (List.mem_cons_of_mem _ hy)) fun i k hi hk => ?_
    have h1 := h i k hi hk
    have h2 := hl x (List.mem_cons_self ..)
    show fUpd b x.1 x.2.1 (min (b x.1 x.2.1) x.2.2) i k < farF → fUpd b x.1 x.2.1 (min (b x.1 x.2.1) x.2.2) i k ≤ 50000
    unfold fUpd
    split
    · rename_i he; obtain ⟨rfl, rfl⟩ := he; intro _; omega
    · exact h1
theorem farF_v : farF = 1073741824 := rfl
theorem mat0_fin (N : Nat) : FFin farF N 50000 mat0 := fun i k _ _ h => by
  unfold mat0 at h ⊢
  split
  · omega
  · rename_i hn; rw [if_neg hn] at h; omega
theorem cnt_le {X : Wat} (hM : WatOk X) : cntN X ≤ 11 := by have := hM.i; have := hM.e; unfold cntN; omega
theorem raw_holds {X : Wat} (hM : WatOk X) (S E : Nat) : FHolds farF (cntN X) (linksP X S E) (rawM X S E) := by
  refine ⟨bnd_real _ _ (fun _ h => h) (mat0_real _), fun i _ => ?_, fun x hx => bnd_link _ _ x hx, fun x hx => ?_, fun x hx => links_tgt hM S E x hx⟩
  · have := bnd_le (linksP X S E) mat0 i i
    have h0 : mat0 i i = 0 := if_pos rfl
    unfold rawM; omega
  · have := links_bd hM S E x hx
    rw [farF_v]; omega
theorem raw_fin {X : Wat} (hM : WatOk X) (S E : Nat) : FFin farF (cntN X) 50000 (rawM X S E) := bnd_fin _ _ _ (fun x hx => (links_bd hM S E x hx).2) (mat0_fin _)
theorem two_le {N : Nat} (h : N ≤ 11) : (2 : Int) ^ N * 50000 < farF ∧ 2 * ((2 : Int) ^ N * 50000) < farF := by
  have h1 : 2 ^ N ≤ 2 ^ 11 := Nat.pow_le_pow_right (by omega) h
  have h3 : ((2 ^ N : Nat) : Int) = (2 : Int) ^ N := by simp
  rw [farF_v]
  omega
theorem ref_best {X : Wat} (hM : WatOk X) {S E : Nat} (hd : fDiag (cntN X) (refM X S E)) {s : Nat} (hs : s < cntN X) : Best s (linksP X S E) (rowD farF (cntN X) (refM X S E) s) :=
  row_known (raw_holds hM S E) (raw_fin hM S E) (by omega) (two_le (cnt_le hM)).1 (two_le (cnt_le hM)).2 hd hs
theorem ref_ok {X : Wat} (hM : WatOk X) (S E : Nat) : fDiag (cntN X) (refM X S E) ↔ canB X S E = true := by
  rw [can_pot hM]
  constructor
  · intro hd
    have hb := ref_best hM hd (s := 0) (by unfold cntN; omega)
    exact ⟨_, hb.pot (links_src hM hb)⟩
  · rintro ⟨q, hq⟩
    exact fclose_diag (raw_holds hM S E) (by rw [farF_v]; omega) hq
instance (X : Wat) (S E : Nat) : Decidable (fDiag (cntN X) (refM X S E)) := inferInstance
/-- The document's bounds, all looks and all measurers. -/
abbrev refA (X : Wat) : FMat := refM X (allS X) (allE X)
theorem ref_diag {X : Wat} (hM : WatOk X) : fDiag (cntN X) (refA X) ↔ okW X := by rw [ref_ok hM, okW_can hM]
theorem ref_far {X : Wat} (hM : WatOk X) (ho : okW X) {s : Nat} (hs : s < cntN X) {m : DMap} (h : farP s (allL X) = some m) : m = rowD farF (cntN X) (refA X) s := by
  obtain ⟨q, hq⟩ := (can_pot hM _ _).1 ((okW_can hM).2 ho)
  exact (far_known h).unique (ref_best hM ((ref_diag hM).2 ho) hs) hq
theorem ref_le {X : Wat} (hM : WatOk X) (S E : Nat) {i k : Nat} (hi : i < cntN X) (hk : k < cntN X) : -100000000000000 ≤ refM X S E i k ∧ refM X S E i k ≤ farF := by
  have hN := cnt_le hM
  have hB : FBd farF (cntN X) 100000 (rawM X S E) := bnd_bd (by omega) _ _ _ (fun x hx => (links_big hM S E x hx).1) (mat0_bd _)
  have h1 := FBd.closeP (by omega) hB (cntN X) (Nat.le_refl _) i k hi hk
  have h2 : 6 ^ cntN X ≤ 6 ^ 11 := Nat.pow_le_pow_right (by omega) hN
  have h3 : ((6 ^ cntN X : Nat) : Int) = (6 : Int) ^ cntN X := by simp
  unfold refM
  omega
theorem ref_val {X : Wat} (hM : WatOk X) (ho : okW X) {s v : Nat} (hs : s < cntN X) (_ : v < cntN X) (cs : ConA X s) (cv : ConA X v) {m : DMap} (h : farP s (allL X) = some m) : m v = some (refA X s v) ∧ refA X s v < farF := by
  have h1 := best_all hM (far_known h) cs cv
  rw [ref_far hM ho hs h] at h1 ⊢
  unfold rowD at h1 ⊢
  by_cases hc : v < cntN X ∧ refA X s v < farF
  · rw [if_pos hc]; exact ⟨rfl, hc.2⟩
  · rw [if_neg hc] at h1; cases h1
theorem ref_betw {X : Wat} (hM : WatOk X) (ho : okW X) {s v : Nat} (hs : s < cntN X) (hv : v < cntN X) (cs : ConA X s) (cv : ConA X v) : betwP X s v = some ((-(refA X v s), refA X s v), true) := by
  obtain ⟨q, hq⟩ := (can_pot hM _ _).1 ((okW_can hM).2 ho)
  obtain ⟨m, hm⟩ := far_some (s := s) hq
  obtain ⟨n, hn⟩ := far_some (s := v) hq
  have h1 := (ref_val hM ho hs hv cs cv hm).1
  have h2 := (ref_val hM ho hv hs cv cs hn).1
  unfold betwP
  simp only [hm, hn, h1, h2, Option.getD_some, Option.isSome_some]
theorem cnt_hab {X : Wat} {a : Nat} (h : a < X.eyes.toNat) : 1 + a < cntN X := by unfold cntN; omega
theorem cnt_pla {X : Wat} {a : Nat} (h : a < X.images.toNat) : 1 + X.eyes.toNat + a < cntN X := by unfold cntN; omega
theorem cnt_0 (X : Wat) : 0 < cntN X := by unfold cntN; omega
theorem ref_hab {X : Wat} (hM : WatOk X) (ho : okW X) {a : Nat} (h : a < X.eyes.toNat) : habP X a = (-(refA X (1 + a) 0), refA X 0 (1 + a)) := by
  unfold habP; rw [ref_betw hM ho (cnt_0 X) (cnt_hab h) (con_zero X _) (con_hab h)]; rfl
theorem ref_bet {X : Wat} (hM : WatOk X) (ho : okW X) {a b : Nat} (ha : a < X.eyes.toNat) (hb : b < X.eyes.toNat) : betP X a b = (-(refA X (1 + b) (1 + a)), refA X (1 + a) (1 + b)) := by
  unfold betP; rw [ref_betw hM ho (cnt_hab ha) (cnt_hab hb) (con_hab ha) (con_hab hb)]; rfl
theorem ref_pla {X : Wat} (hM : WatOk X) (ho : okW X) {a : Nat} (ha : a < X.images.toNat) (hs : seenI X a) : plaP X a = (-(refA X (1 + X.eyes.toNat + a) 0), refA X 0 (1 + X.eyes.toNat + a)) ∧ refA X 0 (1 + X.eyes.toNat + a) < farF := by
  have cs := con_seen.2 hs
  refine ⟨by unfold plaP; rw [ref_betw hM ho (cnt_0 X) (cnt_pla ha) (con_zero X _) cs]; rfl, ?_⟩
  obtain ⟨q, hq⟩ := (can_pot hM _ _).1 ((okW_can hM).2 ho)
  obtain ⟨m, hm⟩ := far_some (s := 0) hq
  exact (ref_val hM ho (cnt_0 X) (cnt_pla ha) (con_zero X _) cs hm).2
theorem ref_none {X : Wat} (hM : WatOk X) (ho : okW X) {a : Nat} (ha : a < X.images.toNat) (hs : ¬ seenI X a) : refA X 0 (1 + X.eyes.toNat + a) = farF := by
  obtain ⟨q, hq⟩ := (can_pot hM _ _).1 ((okW_can hM).2 ho)
  obtain ⟨m, hm⟩ := far_some (s := 0) hq
  have h1 := best_none hM (far_known hm) (con_zero X _) fun h => hs (con_seen.1 h)
  rw [ref_far hM ho (cnt_0 X) hm] at h1
  unfold rowD at h1
  have h2 := (ref_le hM (allS X) (allE X) (cnt_0 X) (cnt_pla ha)).2
  by_cases hc : 1 + X.eyes.toNat + a < cntN X ∧ refA X 0 (1 + X.eyes.toNat + a) < farF
  · rw [if_pos hc] at h1; cases h1
  · have := cnt_pla ha
    have h3 : ¬ refA X 0 (1 + X.eyes.toNat + a) < farF := fun h => hc ⟨this, h⟩
    show refM X (allS X) (allE X) 0 (1 + X.eyes.toNat + a) = farF
    have h3 : ¬ refM X (allS X) (allE X) 0 (1 + X.eyes.toNat + a) < farF := h3
    omega

/-! ### Sets, by the document -/
theorem clashN_best {X : Wat} (hM : WatOk X) : clashN X = (bestS (clashS X) (allS X + 1)).getD 0 := by
  unfold clashN
  by_cases ho : okW X
  · rw [if_pos ((okW_can hM).2 ho)]
    have h := bestS_spec (clashS X) (allS X + 1)
    cases hc : bestS (clashS X) (allS X + 1) with
    | none => rfl
    | some b =>
      rw [hc] at h
      exact absurd (okW_any hM ho b) ((clashS_iff hM b).1 h.2.1)
  · rw [if_neg fun h => ho ((okW_can hM).1 h)]
theorem bad_step (stop : Nat → Bool) (n : Nat) : bestS stop (n + 1) = if (bestS stop n = none ∨ popc n < popc ((bestS stop n).getD 0)) ∧ stop n = true then some n else bestS stop n := by
  simp only [bestS]
  cases hb : bestS stop n with
  | none => simp
  | some b =>
    simp only [Option.getD_some, reduceCtorEq, false_or]
    by_cases hc : stop n = true ∧ popc n < popc b
    · rw [if_pos hc, if_pos ⟨hc.2, hc.1⟩]
    · rw [if_neg hc, if_neg fun h => hc ⟨h.2, h.1⟩]
theorem popc_full : ∀ k, k < 13 → ∀ n, n < 2 ^ k - 1 → popc n < popc (2 ^ k - 1) := by
  have h : ((List.range 13).all fun k => (List.range (2 ^ k - 1)).all fun n => decide (popc n < popc (2 ^ k - 1))) = true := by kernel_rfl
  intro k hk n hn
  have := List.all_eq_true.1 (List.all_eq_true.1 h k (List.mem_range.2 hk)) n (List.mem_range.2 hn)
  exact of_decide_eq_true this
theorem less_full : ∀ k, k < 13 → ∀ n, n < 2 ^ k → less (2 ^ k - 1) n = 2 ^ k - 1 - n := by
  have h : ((List.range 13).all fun k => (List.range (2 ^ k)).all fun n => decide (less (2 ^ k - 1) n = 2 ^ k - 1 - n)) = true := by kernel_rfl
  intro k hk n hn
  have := List.all_eq_true.1 (List.all_eq_true.1 h k (List.mem_range.2 hk)) n (List.mem_range.2 hn)
  exact of_decide_eq_true this
theorem full_step {k : Nat} (hk : k < 13) {stop : Nat → Bool} {n : Nat} (hn : n ≤ 2 ^ k - 1) : (bestS stop (n + 1)).getD (2 ^ k - 1) = if popc n < popc ((bestS stop n).getD (2 ^ k - 1)) ∧ stop n = true then n else (bestS stop n).getD (2 ^ k - 1) := by
  simp only [bestS]
  cases hb : bestS stop n with
  | none =>
    simp only [Option.getD_none]
    rcases Nat.lt_or_ge n (2 ^ k - 1) with h | h
    · have hp : popc n < popc (2 ^ k - 1) := popc_full k hk n h
      by_cases hc : stop n = true
      · rw [if_pos hc, if_pos ⟨hp, hc⟩]; rfl
      · rw [if_neg hc, if_neg fun h => hc h.2]; rfl
    · obtain rfl : n = 2 ^ k - 1 := by omega
      refine Eq.trans ?_ (if_neg (fun h => Nat.lt_irrefl _ h.1)).symm
      split <;> rfl
  | some b =>
    simp only [Option.getD_some]
    by_cases hc : stop n = true ∧ popc n < popc b
    · rw [if_pos hc, if_pos ⟨hc.2, hc.1⟩]; rfl
    · rw [if_neg hc, if_neg fun h => hc ⟨h.2, h.1⟩]; rfl
theorem best_lt {stop : Nat → Bool} {n d K : Nat} (h : n ≤ K) (hd : d < K) : (bestS stop n).getD d < K := by
  have hs := bestS_spec stop n
  cases hb : bestS stop n with
  | none => exact hd
  | some b => rw [hb] at hs; simp only at hs; exact Nat.lt_of_lt_of_le hs.1 h
theorem best_getD {stop : Nat → Bool} {F s d : Nat} (hs : s ≤ F) (h : stop s = true) : (bestS stop (F + 1)).getD d = (bestS stop (F + 1)).getD 0 := by
  have hb := bestS_spec stop (F + 1)
  cases hc : bestS stop (F + 1) with
  | none => rw [hc] at hb; have := hb s (by omega); rw [h] at this; cases this
  | some b => rfl
theorem dropN_all {X : Wat} (hM : WatOk X) : (bestS (dropS X) (allS X + 1)).getD (allS X) = dropN X :=
  best_getD (Nat.le_refl _) ((dropS_iff hM _).2 (by rw [less_full_self]; exact ⟨_, Tru.none hM _⟩))
theorem explN_all {X : Wat} (hM : WatOk X) (ho : okW X) : (bestS (explS X) (allE X + 1)).getD (allE X) = explN X :=
  best_getD (Nat.le_refl _) ((explS_iff hM _).2 ho)
end Go.Proofs.Ytiaaidcdoenloaa
