/-
  Walks: numbers are sorted.
-/
import Derived.Test.YtdpeifbejeflhaaVd
namespace Go.Proofs.Ytdpeifbejeflhaa
open ZW

theorem sub_one : ∀ (l : List Value) (n : Nat) (v : Value), l[n]? = some v → sub l n 1 = some [v]
  | [], n, v, h => by simp at h
  | x :: l, 0, v, h => by simp at h; subst h; simp [sub]
  | x :: l, n + 1, v, h => by simpa [sub] using sub_one l n v (by simpa using h)
theorem wr_one : ∀ (l : List Value) (n : Nat) (v : Value), wr l n [v] = l.set n v
  | [], n, v => by simp [wr]
  | x :: l, 0, v => by simp [wr, wr_nil]
  | x :: l, n + 1, v => by simp [wr, wr_one l n v]
theorem subI {l : List Int} {rest : List Value} {o j : Nat} (h : o = j) (hj : j < l.length) : sub (l.map i64 ++ rest) o 1 = some [i64 (l.getD j 0)] := by
  subst h
  refine sub_one _ _ _ ?_
  rw [List.getElem?_append_left (by simpa using hj), List.getElem?_map, List.getElem?_eq_getElem hj, Option.map_some, List.getElem_eq_getD 0]
theorem wrI {l : List Int} {rest : List Value} {o j : Nat} {v : Int} (h : o = j) (hj : j < l.length) : wr (l.map i64 ++ rest) o [i64 v] = (l.set j v).map i64 ++ rest := by
  subst h
  rw [wr_one, List.set_append_left _ _ (by simpa using hj), List.map_set]
theorem fitI {l : List Int} {rest : List Value} {o j k : Nat} (h : o = j) (hj : j < l.length) (hk : k = 1) : Nat.ble (o + k) (l.map i64 ++ rest).length = true := by
  subst h; subst hk
  rw [Nat.ble_eq]; simp; omega
/-- In order, up to one. -/
def SrtTo (l : List Int) (n : Nat) : Prop := ∀ p q, p < q → q < n → l.getD p 0 ≤ l.getD q 0
abbrev swapL (l : List Int) (j : Nat) : List Int := (l.set j (l.getD (j - 1) 0)).set (j - 1) (l.getD j 0)
theorem swap_get {l : List Int} {j : Nat} (h0 : 0 < j) (hj : j < l.length) (q : Nat) (hq : q < l.length) : (swapL l j).getD q 0 = if q = j then l.getD (j - 1) 0 else if q = j - 1 then l.getD j 0 else l.getD q 0 := by
  simp only [List.getD_eq_getElem?_getD, List.getElem?_set, List.length_set]
  by_cases h1 : j - 1 = q
  · rw [if_pos h1, if_pos (by omega), if_neg (by omega), if_pos h1.symm]; simp
  · rw [if_neg h1, if_neg (show ¬ q = j - 1 by omega)]
    by_cases h2 : j = q
    · rw [if_pos h2, if_pos (by omega), if_pos h2.symm]; simp
    · rw [if_neg h2, if_neg (Ne.symm h2)]
theorem swap_mem {l : List Int} {j : Nat} (h0 : 0 < j) (hj : j < l.length) (d : Int) : d ∈ swapL l j ↔ d ∈ l := by
  have h := (List.set_set_perm hj (show j - 1 < l.length by omega)).mem_iff (a := d)
  rw [List.getElem_eq_getD 0, List.getElem_eq_getD 0] at h
  exact h
theorem isort_out {l : List Int} {i j : Nat} (h : ∀ p q, p < q → q ≤ i → q ≠ j → l.getD p 0 ≤ l.getD q 0) (hj : j ≤ i) (hz : j = 0 ∨ ¬ l.getD j 0 < l.getD (j - 1) 0) : SrtTo l (i + 1) := fun p q hpq hq => by
  by_cases hqj : q = j
  · subst hqj
    rcases hz with hz | hz
    · omega
    · by_cases hp : p = q - 1
      · subst hp; omega
      · have := h p (q - 1) (by omega) (by omega) (by omega); omega
  · exact h p q hpq (by omega) hqj
theorem isort_in {l : List Int} {i j : Nat} (h : ∀ p q, p < q → q ≤ i → q ≠ j → l.getD p 0 ≤ l.getD q 0) (h0 : 0 < j) (hj : j ≤ i) (hi : i < l.length) (hlt : l.getD j 0 < l.getD (j - 1) 0) : ∀ p q, p < q → q ≤ i → q ≠ j - 1 → (swapL l j).getD p 0 ≤ (swapL l j).getD q 0 := fun p q hpq hq hne => by
  rw [swap_get h0 (by omega) p (by omega), swap_get h0 (by omega) q (by omega), if_neg hne]
  by_cases hqj : q = j
  · subst hqj
    rw [if_pos rfl, if_neg (by omega)]
    by_cases hp : p = q - 1
    · rw [if_pos hp]; omega
    · rw [if_neg hp]; exact h p (q - 1) (by omega) (by omega) (by omega)
  · rw [if_neg hqj]
    have hq1 := h p q hpq hq hqj
    by_cases hp : p = j
    · rw [if_pos hp]; exact h (j - 1) q (by omega) hq hqj
    · rw [if_neg hp]
      by_cases hp2 : p = j - 1
      · rw [if_pos hp2]; exact h j q (by omega) hq hqj
      · rw [if_neg hp2]; exact hq1
set_option maxRecDepth 100000 in
theorem less_any (a b : Int) (w : World) : Calls Try.prog 81 [i64 a, i64 b].toArray w (Ret w (.bool (decide (a < b)))) := by
  have hn : ∀ (n : Int) (w : World), Calls Try.prog 91 [i64 n].toArray w (Ret w (.bool false)) := fun n w => by
    refine fEnter Try.func91 rfl Try.ntmps91 rfl ?_
    refine kSeq ?_
    refine kRegion rfl ?_
    refine lV (yAssign rfl) rfl rfl ?_
    refine lNil ?_
    refine kThen ?_
    refine kSeq ?_
    refine kRegion rfl ?_
    refine lV (yMove rfl) rfl rfl ?_
    refine lV (yMove rfl) rfl rfl ?_
    refine lV (yNeq rfl rfl) rfl rfl ?_
    refine knownN (t := 5) rfl (by simp) ?_
    refine lV (yAssign rfl) rfl rfl ?_
    refine lNil ?_
    refine kThen ?_
    refine kRet ?_
    refine fRet rfl (.t rfl .n) (endRet ?_)
    rfl
  refine fEnter Try.func81 rfl Try.ntmps81 rfl ?_
  refine kSeq ?_
  refine kRegion rfl ?_
  refine lV (yAssign rfl) rfl rfl ?_
  refine lNil ?_
  refine kThen ?_
  refine kSeq ?_
  refine kRegion rfl ?_
  refine lV (yMove rfl) rfl rfl ?_
  refine lV (yCall rfl (.c rfl .n) C91 (fun w hw => hn a w)) rfl rfl ?_
  refine lV (yMove rfl) rfl rfl ?_
  refine lGN rfl rfl rfl rfl rfl ?_
  refine lGN rfl rfl rfl rfl rfl ?_
  refine lGN rfl rfl rfl rfl rfl ?_
  refine lV (yPickF rfl rfl) rfl rfl ?_
  refine lV (yMove rfl) rfl rfl ?_
  refine lGY rfl rfl rfl (oV (yMove rfl) rfl ?_)
  refine lGY rfl rfl rfl (oV (yMove rfl) rfl ?_)
  refine lGY rfl rfl rfl (oV (yLss rfl rfl) rfl ?_)
  refine lV (yPickF rfl rfl) rfl rfl ?_
  refine lV (yAssign rfl) rfl rfl ?_
  refine lNil ?_
  refine kThen ?_
  refine kRet ?_
  refine fRet rfl (.t rfl .n) (endRet ?_)
  rfl
set_option maxRecDepth 100000 in
set_option maxHeartbeats 4000000 in
theorem isort_any (n c : Nat) (l : List Int) (rest : List Value) (w : World) (hb : w.heap[n]? = some (blk (l.map i64 ++ rest) 3)) (hl : l.length ≤ 12) :
    Calls Try.prog 75 [.slice (some ⟨n, 0, none⟩) l.length c, i64 0, i64 (l.length : Nat)].toArray w
      (RetX w (fun l' : List Int => l'.length = l.length ∧ (∀ d, d ∈ l' ↔ d ∈ l) ∧ SrtTo l' l.length) (fun _ => .tuple #[]) (fun l' => [(n, blk (l'.map i64 ++ rest) 3)]) (fun _ => [])) := by
  refine fEnterM (Eff.one hb) Try.func75 rfl Try.ntmps75 rfl ?_
  refine kSeq ?_
  refine kRegion rfl ?_
  refine lV (yMove rfl) rfl rfl ?_
  refine lV (yAdd rfl rfl (by omega)) rfl rfl ?_
  refine lV (yAssign rfl) rfl rfl ?_
  refine lNil ?_
  refine kThen ?_
  refine kBlock ?_
  refine kLoopX (ι := Nat × List Int) (fun x => 1 ≤ x.1 ∧ x.1 ≤ max 1 l.length ∧ x.2.length = l.length ∧ (∀ d, d ∈ x.2 ↔ d ∈ l) ∧ SrtTo x.2 x.1) (fun x => [(6, i64 (x.1 : Nat))]) [(0, _), (1, _), (2, _), (8, _), (9, _)] (fun x => [(n, blk (x.2.map i64 ++ rest) 3)]) (fun x => []) [] (fun x => max 1 l.length - x.1) (1, l) (⟨Nat.le_refl _, by dsimp only; omega, rfl, fun _ => Iff.rfl, fun p q h1 h2 => by dsimp only at h2; omega⟩) rfl (.c rfl .n) (.c rfl (.c rfl (.c rfl (.c rfl (.c rfl .n))))) .n ?_
  rintro ⟨i, l1⟩ ⟨hi, hi2, hln, hmem, hs⟩
  dsimp only at hi hi2 hln hmem hs ⊢
  refine kSeq ?_
  refine kSeq ?_
  refine kRegion rfl ?_
  refine lV (yMove rfl) rfl rfl ?_
  refine lV (yMove rfl) rfl rfl ?_
  refine lV (yLss rfl rfl) rfl rfl ?_
  refine lNil ?_
  refine kThen ?_
  refine split (t := 12) rfl (fun h12 => ?_) (fun h12 => ?_)
  · refine kIfT rfl ?_
    refine kSkip ?_
    refine kThen ?_
    refine kSeq ?_
    refine kBlock ?_
    refine kSeq ?_
    refine kRegion rfl ?_
    refine lV (yMove rfl) rfl rfl ?_
    refine lV (yAssign rfl) rfl rfl ?_
    refine lNil ?_
    refine kThen ?_
    refine kBlock ?_
    refine kLoopX (ι := Nat × List Int) (fun x => x.1 ≤ i ∧ x.2.length = l.length ∧ (∀ d, d ∈ x.2 ↔ d ∈ l) ∧ ∀ p q, p < q → q ≤ i → q ≠ x.1 → x.2.getD p 0 ≤ x.2.getD q 0) (fun x => [(7, i64 (x.1 : Nat))]) [(0, _), (1, _), (2, _), (8, _), (9, _), (6, _), (10, _), (11, _), (12, _), (15, _)] (fun x => [(n, blk (x.2.map i64 ++ rest) 3)]) (fun x => []) [] (fun x => x.1) (i, l1) (⟨Nat.le_refl _, hln, hmem, fun p q h1 h2 h3 => hs p q h1 (by dsimp only at h3; omega)⟩) rfl (.c rfl .n) (.c rfl (.c rfl (.c rfl (.c rfl (.c rfl (.c rfl (.c rfl (.c rfl (.c rfl (.c rfl .n)))))))))) .n ?_
    rintro ⟨j, l2⟩ ⟨hj, hln2, hmem2, hs2⟩
    dsimp only at hj hln2 hmem2 hs2 ⊢
    refine kSeq ?_
    refine kSeq ?_
    by_cases hj0 : 0 < j
    · refine kDrawE [(7, none), (12, none), (13, none)] [] [0, 1, 2, 3, 4, 5, 6, 7, 8, 9, 10, 11, 12, 13, 14] 0 hMix (by kernel_rfl) ?_
      refine .run rfl (yMove rfl) rfl rfl ?_
      refine .run rfl (yMove rfl) rfl rfl ?_
      refine .run rfl (yvTrue (yGtr rfl rfl) (by omega)) rfl rfl ?_
      refine .run rfl (yMove rfl) rfl rfl ?_
      refine .runG rfl (yMove rfl) rfl rfl rfl rfl ?_
      refine .runG rfl (yMove rfl) rfl rfl rfl rfl ?_
      refine .runG rfl (yIndexSl rfl rfl S22 (by omega) (by omega)) rfl rfl rfl rfl ?_
      refine .runG rfl (yLoad1 rfl O3 (cOwn 0 rfl ((subI (j := j) (by simp) (by omega))))) rfl rfl rfl rfl ?_
      refine .runG rfl (yMove rfl) rfl rfl rfl rfl ?_
      refine .runG rfl (yMove rfl) rfl rfl rfl rfl ?_
      refine .runG rfl (yvSame (u := i64 ((j - 1 : Nat) : Int)) (ySub rfl rfl (by omega)) (congrArg i64 (by omega))) rfl rfl rfl rfl ?_
      refine .runG rfl (yIndexSl rfl rfl S22 (by omega) (by omega)) rfl rfl rfl rfl ?_
      refine .runG rfl (yLoad1 rfl O3 (cOwn 0 rfl ((subI (j := j - 1) (by simp) (by omega))))) rfl rfl rfl rfl ?_
      refine .runG rfl (yCall rfl (.c rfl (.c rfl .n)) C81 (fun w hw => less_any _ _ w)) rfl rfl rfl rfl ?_
      refine .run rfl (yPickT rfl rfl) rfl rfl ?_
      refine .done ?_
      refine effDone closedSt (hLeft [7, 12, 13] (by kernel_rfl) (.c (fun _ _ hs => hs.ef) (.c (fun _ _ hs => hs.ef) (.c (fun _ _ hs => hs.ef) .n)))) (by kernel_rfl) ?_
      refine kThen ?_
      refine splitB (t := 30) rfl (fun h30 => ?_) (fun h30 => ?_)
      · have hlt : l2.getD j 0 < l2.getD (j - 1) 0 := by simpa using h30
        have hround2 : j - 1 ≤ i ∧ (swapL l2 j).length = l.length ∧ (∀ d, d ∈ swapL l2 j ↔ d ∈ l) ∧ ∀ p q, p < q → q ≤ i → q ≠ j - 1 → (swapL l2 j).getD p 0 ≤ (swapL l2 j).getD q 0 :=
          ⟨by omega, by simp [hln2], fun d => (swap_mem hj0 (by omega) d).trans (hmem2 d), isort_in hs2 hj0 hj (by omega) hlt⟩
        refine kIfT rfl ?_
        refine kSkip ?_
        refine kThen ?_
        refine kSeq ?_
        refine kBlock ?_
        refine kDrawE [(9, none), (13, none)] [] [0, 1, 2, 3, 4, 5, 6, 7, 8, 9, 10, 11, 12, 13, 14, 16] 2 hMix (by kernel_rfl) ?_
        refine .run rfl (yMove rfl) rfl rfl ?_
        refine .run rfl (yMove rfl) rfl rfl ?_
        refine .run rfl (yMove rfl) rfl rfl ?_
        refine .run rfl (yMove rfl) rfl rfl ?_
        refine .run rfl (yvSame (u := i64 ((j - 1 : Nat) : Int)) (ySub rfl rfl (by omega)) (congrArg i64 (by omega))) rfl rfl ?_
        refine .run rfl (yMove rfl) rfl rfl ?_
        refine .run rfl (yMove rfl) rfl rfl ?_
        refine .run rfl (yvSame (u := i64 ((j - 1 : Nat) : Int)) (ySub rfl rfl (by omega)) (congrArg i64 (by omega))) rfl rfl ?_
        refine .run rfl (yIndexSl rfl rfl S22 (by omega) (by omega)) rfl rfl ?_
        refine .run rfl (yLoad1 rfl O3 (cOwn 0 rfl ((subI (j := j - 1) (by simp) (by omega))))) rfl rfl ?_
        refine .run rfl (yMove rfl) rfl rfl ?_
        refine .run rfl (yMove rfl) rfl rfl ?_
        refine .run rfl (yIndexSl rfl rfl S22 (by omega) (by omega)) rfl rfl ?_
        refine .run rfl (yLoad1 rfl O3 (cOwn 0 rfl ((subI (j := j) (by simp) (by omega))))) rfl rfl ?_
        refine .run rfl (yIndexSl rfl rfl S22 (by omega) (by omega)) rfl rfl ?_
        refine .run rfl (yIndexSl rfl rfl S22 (by omega) (by omega)) rfl rfl ?_
        refine .done ?_
        refine effStep 15 [] (by kernel_rfl) closedSt (hLeft [9, 13] (by kernel_rfl) (.c (fun _ _ hs => hs.ef) (.c (fun _ _ hs => hs.ef) .n))) ?_
        refine .c ?_ .n
        refine effOne rfl (gNone rfl (fStoreM 0 rfl rfl rfl rfl K3 rfl (fitI (j := j) (by simp) (by omega) rfl))) ?_
        refine effStep 17 [] (by kernel_rfl) closedSt (hLeft [] (by kernel_rfl) .n) ?_
        refine .c ?_ .n
        refine effOne rfl (gNone rfl (fStoreM 0 rfl rfl rfl rfl K3 rfl (by rw [wrI (j := j) (by simp) (by omega)]; exact fitI (j := j - 1) (by simp) (by simp; omega) rfl))) ?_
        refine effDone closedSt (hLeft [] (by kernel_rfl) .n) (by kernel_rfl) ?_
        rw [wrI (l := l2) (o := 0 + ((j : Nat) : Int).toNat * 1) (j := j) (by simp) (by omega), wrI (o := 0 + ((j - 1 : Nat) : Int).toNat * 1) (j := j - 1) (by simp) (by simp; omega)]
        refine kInN ?_
        refine kThen ?_
        refine kRegion rfl ?_
        refine lV (yMove rfl) rfl rfl ?_
        refine lV (ySub rfl rfl (by omega)) rfl rfl ?_
        refine same (t := 32) (u := i64 ((j - 1 : Nat) : Int)) rfl (congrArg i64 (by omega)) ?_
        refine lV (yAssign rfl) rfl rfl ?_
        refine lNil ?_
        exact kRoundX (j - 1, swapL l2 j) (hround2) (by dsimp only; omega) rfl (.c rfl .n) (.c rfl (.c rfl (.c rfl (.c rfl (.c rfl (.c rfl (.c rfl (.c rfl (.c rfl (.c rfl .n)))))))))) .n
      · refine kIfF rfl ?_
        refine kExit ?_
        refine kThenX ?_
        refine kThenX ?_
        refine kInX ?_
        refine kInN ?_
        refine kThen ?_
        have hround : 1 ≤ i + 1 ∧ i + 1 ≤ max 1 l.length ∧ l2.length = l.length ∧ (∀ d, d ∈ l2 ↔ d ∈ l) ∧ SrtTo l2 (i + 1) := ⟨by omega, by omega, hln2, hmem2, isort_out hs2 hj (.inr (by simpa using h30))⟩
        refine kRegion rfl ?_
        refine lV (yMove rfl) rfl rfl ?_
        refine lV (yAdd rfl rfl (by omega)) rfl rfl ?_
        refine lV (yAssign rfl) rfl rfl ?_
        refine lNil ?_
        exact kRoundX (i + 1, l2) (hround) (by dsimp only; omega) rfl (.c rfl .n) (.c rfl (.c rfl (.c rfl (.c rfl (.c rfl .n))))) .n
    · refine kDrawE [] [] [0, 1, 2, 3, 4, 5, 6, 7, 8, 9, 10, 11, 12, 13, 14] 0 hMix (by kernel_rfl) ?_
      refine .run rfl (yMove rfl) rfl rfl ?_
      refine .run rfl (yMove rfl) rfl rfl ?_
      refine .run rfl (yvFalse (yGtr rfl rfl) (by omega)) rfl rfl ?_
      refine .run rfl (yMove rfl) rfl rfl ?_
      refine .skip rfl rfl rfl rfl rfl rfl ?_
      refine .skip rfl rfl rfl rfl rfl rfl ?_
      refine .skip rfl rfl rfl rfl rfl rfl ?_
      refine .skip rfl rfl rfl rfl rfl rfl ?_
      refine .skip rfl rfl rfl rfl rfl rfl ?_
      refine .skip rfl rfl rfl rfl rfl rfl ?_
      refine .skip rfl rfl rfl rfl rfl rfl ?_
      refine .skip rfl rfl rfl rfl rfl rfl ?_
      refine .skip rfl rfl rfl rfl rfl rfl ?_
      refine .skip rfl rfl rfl rfl rfl rfl ?_
      refine .run rfl (yPickF rfl rfl) rfl rfl ?_
      refine .done ?_
      refine effDone closedSt (hLeft [] (by kernel_rfl) .n) (by kernel_rfl) ?_
      refine kThen ?_
      refine kIfF rfl ?_
      refine kExit ?_
      refine kThenX ?_
      refine kThenX ?_
      refine kInX ?_
      refine kInN ?_
      refine kThen ?_
      have hround : 1 ≤ i + 1 ∧ i + 1 ≤ max 1 l.length ∧ l2.length = l.length ∧ (∀ d, d ∈ l2 ↔ d ∈ l) ∧ SrtTo l2 (i + 1) := ⟨by omega, by omega, hln2, hmem2, isort_out hs2 hj (.inl (by omega))⟩
      refine kRegion rfl ?_
      refine lV (yMove rfl) rfl rfl ?_
      refine lV (yAdd rfl rfl (by omega)) rfl rfl ?_
      refine lV (yAssign rfl) rfl rfl ?_
      refine lNil ?_
      exact kRoundX (i + 1, l2) (hround) (by dsimp only; omega) rfl (.c rfl .n) (.c rfl (.c rfl (.c rfl (.c rfl (.c rfl .n))))) .n
  · refine kIfF rfl ?_
    refine kExit ?_
    refine kThenX ?_
    refine kThenX ?_
    refine kInX ?_
    refine fEnd rfl .n ?_
    exact endX l1 ⟨hln, hmem, fun p q h1 h2 => hs p q h1 (by omega)⟩ rfl rfl .n
end Go.Proofs.Ytdpeifbejeflhaa
