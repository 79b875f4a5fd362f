/-
  Texts Wc, Wd, We in one.
-/
import Derived.Test.YtlcdohhhhlhpmaaScrA
namespace Go.Proofs.Ytlcdohhhhlhpmaa.Scr
open ZW

set_option maxRecDepth 100000 in
theorem need_ok (e : Int) (w : World) : Calls Try.prog 119 [.bool true, i64 e].toArray w (Ret w (.tuple #[])) := by
  refine fEnter Try.func119 rfl Try.ntmps119 rfl ?_
  refine kSeq ?_
  refine kRegion rfl ?_
  refine lV (yMove rfl) rfl rfl ?_
  refine lV (yNot rfl) rfl rfl ?_
  refine lNil ?_
  refine kThen ?_
  refine kIfF rfl ?_
  refine kSkip ?_
  refine fEnd rfl .n (endRet ?_)
  rfl
set_option maxRecDepth 100000 in
theorem need_pan (e : Int) (w : World) : Calls Try.prog 119 [.bool false, i64 e].toArray w (Pan w (.iface 146 (.agg [i64 e].toArray))) := by
  refine fEnter Try.func119 rfl Try.ntmps119 rfl ?_
  refine kSeq ?_
  refine kRegion rfl ?_
  refine lV (yMove rfl) rfl rfl ?_
  refine lV (yNot rfl) rfl rfl ?_
  refine lNil ?_
  refine kThen ?_
  refine kIfT rfl ?_
  refine kRegion rfl ?_
  refine lV (yMove rfl) rfl rfl ?_
  refine lV (yBuild (.c rfl .n) (fun w => B146_0 w)) rfl rfl ?_
  refine lV (yMakeInterface rfl I146) rfl rfl ?_
  refine lE rfl ?_
  refine ePanic rfl ?_
  exact fPan (endPan rfl)
set_option maxRecDepth 100000 in
theorem caught_nil (v : Value) (w : World) : Calls Try.prog 97 [.nilIface, v].toArray w (Ret w (.tuple #[])) := by
  refine fEnter Try.func97 rfl Try.ntmps97 rfl ?_
  refine kSeq ?_
  refine kSeq ?_
  refine kRegion rfl ?_
  refine lV (yMove rfl) rfl rfl ?_
  refine lV (yEqNilNil' rfl J20) rfl rfl ?_
  refine lNil ?_
  refine kThen ?_
  refine kIfT rfl ?_
  refine kRet ?_
  refine kThenR ?_
  refine fRet rfl .n (endRet ?_)
  rfl
set_option maxRecDepth 100000 in
theorem caught_mis (e x : Int) (n : Nat) (w : World) (hb : w.heap[n]? = some (blk [i64 x] 29)) : Calls Try.prog 97 [.iface 146 (.agg [i64 e].toArray), .pointer (some ⟨n, 0, none⟩)].toArray w (Wr w n (blk [i64 e] 29) (.tuple #[])) := by
  refine fEnterM (Eff.one hb) Try.func97 rfl Try.ntmps97 rfl ?_
  refine kSeq ?_
  refine kSeq ?_
  refine kRegion rfl ?_
  refine lV (yMove rfl) rfl rfl ?_
  refine lV (yEqNilIf' rfl J20) rfl rfl ?_
  refine lNil ?_
  refine kThen ?_
  refine kIfF rfl ?_
  refine kSkip ?_
  refine kThen ?_
  refine kSeq ?_
  refine kRegion rfl ?_
  refine lV (yMove rfl) rfl rfl ?_
  refine lV (yAssertY rfl I146) rfl rfl ?_
  refine lV (yMove rfl) rfl rfl ?_
  refine lV (yExtract rfl rfl) rfl rfl ?_
  refine lV (yExtract rfl rfl) rfl rfl ?_
  refine lE rfl ?_
  refine eAlloc Z146 fun n4 => ?_
  refine lE rfl ?_
  refine eStoreL 0 rfl rfl rfl rfl K146 rfl (rfl) ?_
  refine lV (yAssign rfl) rfl rfl ?_
  refine lNil ?_
  refine kThen ?_
  refine kSeq ?_
  refine kSeq ?_
  refine kRegion rfl ?_
  refine lV (yMove rfl) rfl rfl ?_
  refine lV (yNot rfl) rfl rfl ?_
  refine lNil ?_
  refine kThen ?_
  refine kIfF rfl ?_
  refine kSkip ?_
  refine kThen ?_
  refine kRegion rfl ?_
  refine lV (yMove rfl) rfl rfl ?_
  refine lV (yFieldAddr rfl F146_0) rfl rfl ?_
  refine lV (yLoad1 rfl O29 (cOwn 1 rfl rfl)) rfl rfl ?_
  refine lV (yNilCheckP rfl) rfl rfl ?_
  refine lE rfl ?_
  refine eStoreM 0 rfl rfl rfl rfl K29 rfl (rfl) ?_
  refine lNil ?_
  refine fEnd rfl .n ?_
  exact endW rfl rfl

/-- The bounds as far as they are made. -/
def freeTo (i k : Nat) : BMat := fun x y => if x ≠ y ∧ y < 8 ∧ (x < i ∨ x = i ∧ y < k) then never else 0

theorem freeTo_put {i k : Nat} (h : i ≠ k) (hk : k < 8) : bUpd (freeTo i k) i k never = freeTo i (k + 1) := by
  funext x y
  simp only [bUpd, freeTo]
  by_cases h1 : x = i ∧ y = k
  · rw [if_pos h1, if_pos (by omega)]
  · rw [if_neg h1]
    by_cases h2 : x ≠ y ∧ y < 8 ∧ (x < i ∨ x = i ∧ y < k)
    · rw [if_pos h2, if_pos (by omega)]
    · rw [if_neg h2, if_neg (by omega)]
theorem freeTo_skip (i : Nat) : freeTo i i = freeTo i (i + 1) := by
  funext x y
  simp only [freeTo]
  by_cases h2 : x ≠ y ∧ y < 8 ∧ (x < i ∨ x = i ∧ y < i)
  · rw [if_pos h2, if_pos (by omega)]
  · rw [if_neg h2, if_neg (by omega)]
theorem freeTo_next (i : Nat) : freeTo i 8 = freeTo (i + 1) 0 := by
  funext x y
  simp only [freeTo]
  by_cases h2 : x ≠ y ∧ y < 8 ∧ (x < i ∨ x = i ∧ y < 8)
  · rw [if_pos h2, if_pos (by omega)]
  · rw [if_neg h2, if_neg (by omega)]

set_option maxRecDepth 100000 in
theorem free_any (w : World) : Calls Try.prog 136 [].toArray w (Ret w (.agg (bCells freeP).toArray)) := by
  refine fEnter Try.func136 rfl Try.ntmps136 rfl ?_
  refine kSeq ?_
  refine kRegion rfl ?_
  refine lE rfl ?_
  refine eAlloc Z124 fun n0 => ?_
  refine lNil ?_
  refine kThen ?_
  refine kSeq ?_
  refine kSeq ?_
  refine kRegion rfl ?_
  refine lV (yMove rfl) rfl rfl ?_
  refine lNil ?_
  refine kThen ?_
  refine kBlock ?_
  refine kLoopX (ι := Nat × BMat) (fun x => x.1 ≤ 8 ∧ x.2 = freeTo x.1 0) (fun x => [(3, i64 (x.1 : Nat))]) [(0, _)] (fun x => []) (fun x => [(n0, blk (bCells x.2) 124)]) [] (fun x => 8 - x.1) (0, zeroB) (⟨by omega, by funext x y; simp [zeroB, freeTo]⟩) rfl (.c rfl .n) (.c rfl .n) (.c 0 rfl .n) ?_
  rintro ⟨i, b⟩ ⟨hi, hb⟩
  dsimp only at hi hb ⊢
  refine kSeq ?_
  refine kRegion rfl ?_
  refine lV (yLss rfl rfl) rfl rfl ?_
  refine lNil ?_
  refine kThen ?_
  refine kSeq ?_
  refine split (t := 4) rfl (fun h4 => ?_) (fun h4 => ?_)
  · refine kIfT rfl ?_
    refine kSkip ?_
    refine kThen ?_
    refine kSeq ?_
    refine kBlock ?_
    refine kSeq ?_
    refine kRegion rfl ?_
    refine lV (yMove rfl) rfl rfl ?_
    refine lV (yAssign rfl) rfl rfl ?_
    refine lNil ?_
    refine kThen ?_
    refine kSeq ?_
    refine kRegion rfl ?_
    refine lV (yMove rfl) rfl rfl ?_
    refine lNil ?_
    refine kThen ?_
    refine kBlock ?_
    refine kLoopX (ι := Nat × BMat) (fun x => x.1 ≤ 8 ∧ x.2 = freeTo i x.1) (fun x => [(6, i64 (x.1 : Nat))]) [(0, _), (3, _), (4, _), (5, _), (1, _)] (fun x => []) (fun x => [(n0, blk (bCells x.2) 124)]) [] (fun x => 8 - x.1) (0, b) (⟨by omega, hb⟩) rfl (.c rfl .n) (.c rfl (.c rfl (.c rfl (.c rfl (.c rfl .n))))) (.c 0 rfl .n) ?_
    rintro ⟨k, d⟩ ⟨hk, hd⟩
    dsimp only at hk hd ⊢
    refine kSeq ?_
    refine kRegion rfl ?_
    refine lV (yLss rfl rfl) rfl rfl ?_
    refine lNil ?_
    refine kThen ?_
    refine kSeq ?_
    refine split (t := 7) rfl (fun h7 => ?_) (fun h7 => ?_)
    · refine kIfT rfl ?_
      refine kSkip ?_
      refine kThen ?_
      refine kSeq ?_
      refine kBlock ?_
      refine kSeq ?_
      refine kRegion rfl ?_
      refine lV (yMove rfl) rfl rfl ?_
      refine lV (yAssign rfl) rfl rfl ?_
      refine lNil ?_
      refine kThen ?_
      refine kSeq ?_
      refine kRegion rfl ?_
      refine lV (yMove rfl) rfl rfl ?_
      refine lV (yMove rfl) rfl rfl ?_
      refine lV (yNeq rfl rfl) rfl rfl ?_
      refine lNil ?_
      refine kThen ?_
      refine split (t := 11) rfl (fun h11 => ?_) (fun h11 => ?_)
      · refine kIfT rfl ?_
        refine kRegion rfl ?_
        refine lV (yMove rfl) rfl rfl ?_
        refine lV (yMove rfl) rfl rfl ?_
        refine lV (yIndexN rfl rfl R124 ((by omega))) rfl rfl ?_
        refine lV (yIndexN rfl rfl R122 ((by omega))) rfl rfl ?_
        refine lE rfl ?_
        refine eStoreL 0 rfl rfl rfl rfl K3 rfl (bFits (bCells_length _) (by omega) (by omega)) ?_
        refine lNil ?_
        rw [bWr d (by omega) (by omega)]
        refine kInN ?_
        refine kThen ?_
        refine kRegion rfl ?_
        refine lV (yAdd rfl rfl (by omega)) rfl rfl ?_
        refine lV (yMove rfl) rfl rfl ?_
        refine lNil ?_
        exact kRoundX (k + 1, _) (⟨by dsimp only; omega, by dsimp only; rw [hd]; first | exact freeTo_put (by omega) (by omega) | (obtain rfl : i = k := (by omega); exact freeTo_skip _)⟩) (by dsimp only; omega) rfl (.c rfl .n) (.c rfl (.c rfl (.c rfl (.c rfl (.c rfl .n))))) (.c 0 rfl .n)
      · refine kIfF rfl ?_
        refine kSkip ?_
        refine kInN ?_
        refine kThen ?_
        refine kRegion rfl ?_
        refine lV (yAdd rfl rfl (by omega)) rfl rfl ?_
        refine lV (yMove rfl) rfl rfl ?_
        refine lNil ?_
        exact kRoundX (k + 1, _) (⟨by dsimp only; omega, by dsimp only; rw [hd]; first | exact freeTo_put (by omega) (by omega) | (obtain rfl : i = k := (by omega); exact freeTo_skip _)⟩) (by dsimp only; omega) rfl (.c rfl .n) (.c rfl (.c rfl (.c rfl (.c rfl (.c rfl .n))))) (.c 0 rfl .n)
    · refine kIfF rfl ?_
      refine kExit ?_
      refine kThenX ?_
      refine kThenX ?_
      refine kInX ?_
      refine kInN ?_
      refine kThen ?_
      refine kRegion rfl ?_
      refine lV (yAdd rfl rfl (by omega)) rfl rfl ?_
      refine lV (yMove rfl) rfl rfl ?_
      refine lNil ?_
      exact kRoundX (i + 1, _) (⟨by dsimp only; omega, by dsimp only; rw [hd]; obtain rfl : k = 8 := (by omega); exact freeTo_next _⟩) (by dsimp only; omega) rfl (.c rfl .n) (.c rfl .n) (.c 0 rfl .n)
  · refine kIfF rfl ?_
    refine kExit ?_
    refine kThenX ?_
    refine kThenX ?_
    refine kInX ?_
    refine kThen ?_
    refine kSeq ?_
    refine kRegion rfl ?_
    refine lV (yLoadA (vs := (bCells _)) rfl A124 (cOwn 0 rfl (bSubAll _))) rfl rfl ?_
    refine lE rfl ?_
    refine eStoreL 0 rfl rfl rfl rfl K124 rfl (rfl) ?_
    refine lNil ?_
    rw [bWrB]
    refine kThen ?_
    refine kRet ?_
    refine fRet rfl (.cA (us := (bCells _)) rfl A124 (cOwn 0 rfl (bSubAll _)) .n) (endRet ?_)
    simp only [packV]
    rw [bCells_congr (c := freeP) fun i k hi hk => by rw [hb]; simp only [freeTo, freeP]; split <;> split <;> first | rfl | omega]
set_option maxRecDepth 100000 in
theorem put_any (b : BMat) (nb f t : Nat) (lo hi : Int) (w : World) (hb : w.heap[nb]? = some (blk (bCells b) 124)) (hf : f < 8) (ht : t < 8) (hlo : In64 (-lo)) :
    Calls Try.prog 137 [.pointer (some ⟨nb, 0, none⟩), i64 (f : Nat), i64 (t : Nat), .agg [i64 lo, i64 hi].toArray].toArray w (Wr w nb (blk (bCells (putP b f t (lo, hi))) 124) (.tuple #[])) := by
  refine fEnterM (Eff.one hb) Try.func137 rfl Try.ntmps137 rfl ?_
  refine kSeq ?_
  refine kRegion rfl ?_
  refine lE rfl ?_
  refine eBoxA rfl fun n7 => ?_
  refine lNil ?_
  refine kThen ?_
  refine kDrawE [(12, none), (14, none)] [(22, (fun w => w.cell? ⟨nb, 0 + t * 8 + f * 1, none⟩ = some (i64 (b t f)))), (24, (fun w => w.heap[n7]? = some (blk [i64 lo, i64 hi] 171)))] [0, 1, 2, 3, 4, 5, 6, 7, 8, 9, 10, 11, 12, 13, 14, 15, 16, 17, 18, 19, 20, 21, 22, 23, 24, 25, 26, 27, 28, 29, 31, 32, 33] 2 hMix (by kernel_rfl) ?_
  refine .run rfl (yMove rfl) rfl rfl ?_
  refine .run rfl (yMove rfl) rfl rfl ?_
  refine .run rfl (yMove rfl) rfl rfl ?_
  refine .run rfl (yMove rfl) rfl rfl ?_
  refine .run rfl (yMove rfl) rfl rfl ?_
  refine .run rfl (yMove rfl) rfl rfl ?_
  refine .run rfl (yMove rfl) rfl rfl ?_
  refine .run rfl (yMove rfl) rfl rfl ?_
  refine .run rfl (yMove rfl) rfl rfl ?_
  refine .run rfl (yNilCheckP rfl) rfl rfl ?_
  refine .run rfl (yIndexN rfl rfl R124 (hf)) rfl rfl ?_
  refine .run rfl (yIndexN rfl rfl R122 (ht)) rfl rfl ?_
  refine .run rfl (yLoad1 rfl O3 (cOwn 0 rfl (bSub b hf ht))) rfl rfl ?_
  refine .run rfl (yFieldAddr rfl F171_1) rfl rfl ?_
  refine .run rfl (yLoad1 rfl O3 (cOwn 1 rfl rfl)) rfl rfl ?_
  refine .run rfl (yMin rfl rfl) rfl rfl ?_
  refine .run rfl (yMove rfl) rfl rfl ?_
  refine .run rfl (yMove rfl) rfl rfl ?_
  refine .run rfl (yMove rfl) rfl rfl ?_
  refine .run rfl (yNilCheckP rfl) rfl rfl ?_
  refine .run rfl (yIndexN rfl rfl R124 (ht)) rfl rfl ?_
  refine .run rfl (yIndexN rfl rfl R122 (hf)) rfl rfl ?_
  refine .run rfl (yLoad1 rfl O3 (cCell)) rfl rfl ?_
  refine .run rfl (yFieldAddr rfl F171_0) rfl rfl ?_
  refine .run rfl (yLoad1 rfl O3 (cHeap rfl)) rfl rfl ?_
  refine .run rfl (yNeg rfl (hlo)) rfl rfl ?_
  refine .run rfl (yMin rfl rfl) rfl rfl ?_
  refine .run rfl (yNilCheckP rfl) rfl rfl ?_
  refine .run rfl (yIndexN rfl rfl R124 (hf)) rfl rfl ?_
  refine .run rfl (yIndexN rfl rfl R122 (ht)) rfl rfl ?_
  refine .run rfl (yNilCheckP rfl) rfl rfl ?_
  refine .run rfl (yIndexN rfl rfl R124 (ht)) rfl rfl ?_
  refine .run rfl (yIndexN rfl rfl R122 (hf)) rfl rfl ?_
  refine .done ?_
  refine effStep 30 [] (by kernel_rfl) closedSt (hLeft [12, 14, 22, 24] (by kernel_rfl) (.c (fun _ _ hs => hs.ef) (.c (fun _ _ hs => hs.ef) (.c (fun _ _ hs => bCell (hs.ef.blkAt 0 rfl) ht hf) (.c (fun _ _ hs => hs.ef.blkAt 1 rfl) .n))))) ?_
  refine .c ?_ .n
  refine effOne rfl (gNone rfl (fStoreM 0 rfl rfl rfl rfl K3 rfl (bFits (bCells_length _) hf ht))) ?_
  refine effStep 34 [] (by kernel_rfl) closedSt (hLeft [24] (by kernel_rfl) (.c (fun _ _ hs => hs.ef.blkAt 1 rfl) .n)) ?_
  refine .c ?_ .n
  refine effOne rfl (gNone rfl (fStoreM 0 rfl rfl rfl rfl K3 rfl (bFits (by rw [wr_length, bCells_length]) ht hf))) ?_
  refine effDone closedSt (hLeft [] (by kernel_rfl) .n) (by kernel_rfl) ?_
  refine fEnd rfl .n ?_
  exact endW rfl (by rw [bWr b hf ht, bWr _ ht hf]; rfl)
theorem stepP_pos {j i k : Nat} {b : BMat} (h1 : b i j < 1099511627776) (h2 : b j k < 1099511627776) : stepP j b i k = bUpd b i k (min (b i k) (b i j + b j k)) := if_pos ⟨h1, h2⟩
theorem stepP_neg1 {j i k : Nat} {b : BMat} (h1 : ¬ b i j < 1099511627776) : stepP j b i k = b := if_neg fun h => h1 h.1
theorem stepP_neg2 {j i k : Nat} {b : BMat} (h1 : ¬ b j k < 1099511627776) : stepP j b i k = b := if_neg fun h => h1 h.2

set_option maxRecDepth 100000 in
theorem close1_any (b : BMat) (nb nc j : Nat) (A : Int) (w : World) (hb : w.heap[nb]? = some (blk (bCells b) 124)) (hc : w.heap[nc]? = some (blk [.pointer (some ⟨nb, 0, none⟩)] 157)) (hne : nb ≠ nc) (hj : j < 8) (hA : 0 ≤ A) (hA' : A ≤ 100000000000000000) (hB : Bd A b) :
    Calls Try.prog 147 [i64 (j : Nat), .pointer (some ⟨nc, 0, none⟩)].toArray w (Wr w nb (blk (bCells (roundP b j 8)) 124) (.tuple #[])) := by
  refine fEnterM (Eff.two hb hc hne) Try.func147 rfl Try.ntmps147 rfl ?_
  refine kSeq ?_
  refine kRegion rfl ?_
  refine lV (yMove rfl) rfl rfl ?_
  refine lNil ?_
  refine kThen ?_
  refine kBlock ?_
  refine kLoopX (ι := Nat × BMat) (fun x => x.1 ≤ 8 ∧ x.2 = roundP b j x.1) (fun x => [(5, i64 (x.1 : Nat))]) [(0, _), (1, _)] (fun x => [(nb, blk (bCells x.2) 124), (nc, blk [.pointer (some ⟨nb, 0, none⟩)] 157)]) (fun x => []) [] (fun x => 8 - x.1) (0, b) (⟨by omega, rfl⟩) rfl (.c rfl .n) (.c rfl (.c rfl .n)) .n ?_
  rintro ⟨i, c⟩ ⟨hi, hcc⟩
  dsimp only at hi hcc ⊢
  refine kSeq ?_
  refine kRegion rfl ?_
  refine lV (yLss rfl rfl) rfl rfl ?_
  refine lNil ?_
  refine kThen ?_
  refine kSeq ?_
  refine split (t := 6) rfl (fun h6 => ?_) (fun h6 => ?_)
  · refine kIfT rfl ?_
    refine kSkip ?_
    refine kThen ?_
    refine kSeq ?_
    refine kBlock ?_
    refine kSeq ?_
    refine kRegion rfl ?_
    refine lV (yMove rfl) rfl rfl ?_
    refine lV (yAssign rfl) rfl rfl ?_
    refine lNil ?_
    refine kThen ?_
    refine kSeq ?_
    refine kRegion rfl ?_
    refine lV (yMove rfl) rfl rfl ?_
    refine lNil ?_
    refine kThen ?_
    refine kBlock ?_
    refine kLoopX (ι := Nat × BMat) (fun x => x.1 ≤ 8 ∧ x.2 = rowP j c i x.1) (fun x => [(8, i64 (x.1 : Nat))]) [(0, _), (1, _), (5, _), (6, _), (7, _), (3, _)] (fun x => [(nb, blk (bCells x.2) 124), (nc, blk [.pointer (some ⟨nb, 0, none⟩)] 157)]) (fun x => []) [] (fun x => 8 - x.1) (0, c) (⟨by omega, rfl⟩) rfl (.c rfl .n) (.c rfl (.c rfl (.c rfl (.c rfl (.c rfl (.c rfl .n)))))) .n ?_
    rintro ⟨k, d⟩ ⟨hk, hd⟩
    dsimp only at hk hd ⊢
    have hr : i < 8 → RInv j A i k d := fun h8 => by rw [hd, hcc]; exact (RInv.roundP hA hj hB i hi).rowP hA hj h8 k hk
    refine kSeq ?_
    refine kRegion rfl ?_
    refine lV (yLss rfl rfl) rfl rfl ?_
    refine lNil ?_
    refine kThen ?_
    refine kSeq ?_
    refine split (t := 9) rfl (fun h9 => ?_) (fun h9 => ?_)
    · refine kIfT rfl ?_
      refine kSkip ?_
      refine kThen ?_
      refine kSeq ?_
      refine kBlock ?_
      refine kSeq ?_
      refine kRegion rfl ?_
      refine lV (yMove rfl) rfl rfl ?_
      refine lV (yAssign rfl) rfl rfl ?_
      refine lNil ?_
      refine kThen ?_
      refine kSeq ?_
      refine kRegion rfl ?_
      refine lV (yLoad1 rfl O157 (cOwn 1 rfl rfl)) rfl rfl ?_
      refine lV (yMove rfl) rfl rfl ?_
      refine lV (yMove rfl) rfl rfl ?_
      refine lV (yNilCheckP rfl) rfl rfl ?_
      refine lV (yIndexN rfl rfl R124 ((by omega))) rfl rfl ?_
      refine lV (yIndexN rfl rfl R122 (hj)) rfl rfl ?_
      refine lV (yLoad1 rfl O3 (cOwn 0 rfl (bSub d (by omega) hj))) rfl rfl ?_
      refine lV (yLss rfl rfl) rfl rfl ?_
      refine lV (yMove rfl) rfl rfl ?_
      refine split (t := 19) rfl (fun h19 => ?_) (fun h19 => ?_)
      · refine lGY rfl rfl rfl (oV (yLoad1 rfl O157 (cOwn 1 rfl rfl)) rfl ?_)
        refine lGY rfl rfl rfl (oV (yMove rfl) rfl ?_)
        refine lGY rfl rfl rfl (oV (yMove rfl) rfl ?_)
        refine lGY rfl rfl rfl (oV (yNilCheckP rfl) rfl ?_)
        refine lGY rfl rfl rfl (oV (yIndexN rfl rfl R124 (hj)) rfl ?_)
        refine lGY rfl rfl rfl (oV (yIndexN rfl rfl R122 ((by omega))) rfl ?_)
        refine lGY rfl rfl rfl (oV (yLoad1 rfl O3 (cOwn 0 rfl (bSub d hj (by omega)))) rfl ?_)
        refine lGY rfl rfl rfl (oV (yLss rfl rfl) rfl ?_)
        refine lV (yPickT rfl rfl) rfl rfl ?_
        refine lNil ?_
        refine kThen ?_
        refine split (t := 28) rfl (fun h28 => ?_) (fun h28 => ?_)
        · refine kIfT rfl ?_
          refine kDrawE [(0, none), (3, none), (9, none), (10, none), (16, none), (17, none), (23, none)] [] [0, 1, 2, 3, 4, 5, 6, 7, 8, 9, 10, 11, 12, 13, 14, 15, 16, 17, 18, 19, 20, 21, 22, 23, 24, 25, 26, 27, 28] 1 hMix (by kernel_rfl) ?_
          refine .run rfl (yLoad1 rfl O157 (cOwn 1 rfl rfl)) rfl rfl ?_
          refine .run rfl (yMove rfl) rfl rfl ?_
          refine .run rfl (yMove rfl) rfl rfl ?_
          refine .run rfl (yLoad1 rfl O157 (cOwn 1 rfl rfl)) rfl rfl ?_
          refine .run rfl (yMove rfl) rfl rfl ?_
          refine .run rfl (yMove rfl) rfl rfl ?_
          refine .run rfl (yNilCheckP rfl) rfl rfl ?_
          refine .run rfl (yIndexN rfl rfl R124 ((by omega))) rfl rfl ?_
          refine .run rfl (yIndexN rfl rfl R122 ((by omega))) rfl rfl ?_
          refine .run rfl (yLoad1 rfl O3 (cOwn 0 rfl (bSub d (by omega) (by omega)))) rfl rfl ?_
          refine .run rfl (yLoad1 rfl O157 (cOwn 1 rfl rfl)) rfl rfl ?_
          refine .run rfl (yMove rfl) rfl rfl ?_
          refine .run rfl (yMove rfl) rfl rfl ?_
          refine .run rfl (yNilCheckP rfl) rfl rfl ?_
          refine .run rfl (yIndexN rfl rfl R124 ((by omega))) rfl rfl ?_
          refine .run rfl (yIndexN rfl rfl R122 (hj)) rfl rfl ?_
          refine .run rfl (yLoad1 rfl O3 (cOwn 0 rfl (bSub d (by omega) hj))) rfl rfl ?_
          refine .run rfl (yLoad1 rfl O157 (cOwn 1 rfl rfl)) rfl rfl ?_
          refine .run rfl (yMove rfl) rfl rfl ?_
          refine .run rfl (yMove rfl) rfl rfl ?_
          refine .run rfl (yNilCheckP rfl) rfl rfl ?_
          refine .run rfl (yIndexN rfl rfl R124 (hj)) rfl rfl ?_
          refine .run rfl (yIndexN rfl rfl R122 ((by omega))) rfl rfl ?_
          refine .run rfl (yLoad1 rfl O3 (cOwn 0 rfl (bSub d hj (by omega)))) rfl rfl ?_
          refine .run rfl (yAdd rfl rfl (by have h1 := (hr (by omega)).all i j (by omega) hj; have h2 := (hr (by omega)).all j k hj (by omega); unfold never at h1 h2; omega)) rfl rfl ?_
          refine .run rfl (yMin rfl rfl) rfl rfl ?_
          refine .run rfl (yNilCheckP rfl) rfl rfl ?_
          refine .run rfl (yIndexN rfl rfl R124 ((by omega))) rfl rfl ?_
          refine .run rfl (yIndexN rfl rfl R122 ((by omega))) rfl rfl ?_
          refine .done ?_
          refine effStep 29 [] (by kernel_rfl) closedSt (hLeft [0, 3, 9, 10, 16, 17, 23] (by kernel_rfl) (.c (fun _ _ hs => hs.ef) (.c (fun _ _ hs => hs.ef) (.c (fun _ _ hs => hs.ef) (.c (fun _ _ hs => hs.ef) (.c (fun _ _ hs => hs.ef) (.c (fun _ _ hs => hs.ef) (.c (fun _ _ hs => hs.ef) .n)))))))) ?_
          refine .c ?_ .n
          refine effOne rfl (gNone rfl (fStoreM 0 rfl rfl rfl rfl K3 rfl (bFits (bCells_length _) (by omega) (by omega)))) ?_
          refine effDone closedSt (hLeft [] (by kernel_rfl) .n) (by kernel_rfl) ?_
          rw [bWr d (by omega) (by omega)]
          refine kInN ?_
          refine kThen ?_
          refine kRegion rfl ?_
          refine lV (yAdd rfl rfl (by omega)) rfl rfl ?_
          refine lV (yMove rfl) rfl rfl ?_
          refine lNil ?_
          exact kRoundX (k + 1, bUpd d i k (min (d i k) (d i j + d j k))) (⟨by dsimp only; omega, by dsimp only; rw [rowP_succ, ← hd]; first | exact (stepP_pos h19 h28).symm | exact (stepP_neg1 h19).symm | exact (stepP_neg2 h28).symm⟩) (by dsimp only; omega) rfl (.c rfl .n) (.c rfl (.c rfl (.c rfl (.c rfl (.c rfl (.c rfl .n)))))) .n
        · refine kIfF rfl ?_
          refine kSkip ?_
          refine kInN ?_
          refine kThen ?_
          refine kRegion rfl ?_
          refine lV (yAdd rfl rfl (by omega)) rfl rfl ?_
          refine lV (yMove rfl) rfl rfl ?_
          refine lNil ?_
          exact kRoundX (k + 1, d) (⟨by dsimp only; omega, by dsimp only; rw [rowP_succ, ← hd]; first | exact (stepP_pos h19 h28).symm | exact (stepP_neg1 h19).symm | exact (stepP_neg2 h28).symm⟩) (by dsimp only; omega) rfl (.c rfl .n) (.c rfl (.c rfl (.c rfl (.c rfl (.c rfl (.c rfl .n)))))) .n
      · refine lGN rfl rfl rfl rfl rfl ?_
        refine lGN rfl rfl rfl rfl rfl ?_
        refine lGN rfl rfl rfl rfl rfl ?_
        refine lGN rfl rfl rfl rfl rfl ?_
        refine lGN rfl rfl rfl rfl rfl ?_
        refine lGN rfl rfl rfl rfl rfl ?_
        refine lGN rfl rfl rfl rfl rfl ?_
        refine lGN rfl rfl rfl rfl rfl ?_
        refine lV (yPickF rfl rfl) rfl rfl ?_
        refine lNil ?_
        refine kThen ?_
        refine kIfF rfl ?_
        refine kSkip ?_
        refine kInN ?_
        refine kThen ?_
        refine kRegion rfl ?_
        refine lV (yAdd rfl rfl (by omega)) rfl rfl ?_
        refine lV (yMove rfl) rfl rfl ?_
        refine lNil ?_
        exact kRoundX (k + 1, d) (⟨by dsimp only; omega, by dsimp only; rw [rowP_succ, ← hd]; first | exact (stepP_pos h19 h28).symm | exact (stepP_neg1 h19).symm | exact (stepP_neg2 h28).symm⟩) (by dsimp only; omega) rfl (.c rfl .n) (.c rfl (.c rfl (.c rfl (.c rfl (.c rfl (.c rfl .n)))))) .n
    · refine kIfF rfl ?_
      refine kExit ?_
      refine kThenX ?_
      refine kThenX ?_
      refine kInX ?_
      refine kInN ?_
      refine kThen ?_
      refine kRegion rfl ?_
      refine lV (yAdd rfl rfl (by omega)) rfl rfl ?_
      refine lV (yMove rfl) rfl rfl ?_
      refine lNil ?_
      exact kRoundX (i + 1, d) (⟨by dsimp only; omega, by dsimp only; rw [roundP_succ, ← hcc, hd]; congr 1; omega⟩) (by dsimp only; omega) rfl (.c rfl .n) (.c rfl (.c rfl .n)) .n
  · refine kIfF rfl ?_
    refine kExit ?_
    refine kThenX ?_
    refine kThenX ?_
    refine kInX ?_
    refine fEnd rfl .n ?_
    exact endW2 rfl (by rw [hcc, show i = 8 from by omega]) hc
set_option maxRecDepth 100000 in
theorem close_any (b : BMat) (nb : Nat) (A : Int) (w : World) (hb : w.heap[nb]? = some (blk (bCells b) 124)) (hA : 0 ≤ A) (hA' : A ≤ 50000000000) (hB : Bd A b) :
    Calls Try.prog 138 [.pointer (some ⟨nb, 0, none⟩)].toArray w (Wr w nb (blk (bCells (closeP b 8)) 124) (.bool (decide (diagOk (closeP b 8))))) := by
  have C147 : callT Try.prog 147 = true := C147
  have hnb : nb < w.heap.size := by rw [Array.getElem?_eq_some_iff] at hb; exact hb.1
  have hpow : ∀ n : Nat, n ≤ 7 → 0 ≤ (6 : Int) ^ n * A ∧ (6 : Int) ^ n * A ≤ 100000000000000000 := by
    intro n hn
    have h1 : (0 : Int) ≤ 6 ^ n := Int.pow_nonneg (by omega)
    have h2 : (6 : Int) ^ n ≤ 6 ^ 7 := by
      have : 6 ^ n ≤ 6 ^ 7 := Nat.pow_le_pow_right (by omega) hn
      exact_mod_cast this
    refine ⟨Int.mul_nonneg h1 hA, ?_⟩
    have := Int.mul_le_mul h2 hA' hA (by decide)
    omega
  refine fEnterM (Eff.one hb) Try.func138 rfl Try.ntmps138 rfl ?_
  refine kSeq ?_
  refine kRegion rfl ?_
  refine lE rfl ?_
  refine eBox1 rfl rfl fun n1 => ?_
  refine lV (yAssign rfl) rfl rfl ?_
  refine lNil ?_
  refine kThen ?_
  refine kSeq ?_
  refine kRegion rfl ?_
  refine lV (yMakeFunc .n (.c rfl .n)) rfl rfl ?_
  refine lV (yAssign rfl) rfl rfl ?_
  refine lNil ?_
  refine kThen ?_
  refine kSeq ?_
  refine kSeq ?_
  refine kRegion rfl ?_
  refine lV (yMove rfl) rfl rfl ?_
  refine lNil ?_
  refine kThen ?_
  refine kBlock ?_
  refine kLoopX (ι := Nat × BMat) (fun x => x.1 ≤ 8 ∧ x.2 = closeP b x.1) (fun x => [(7, i64 (x.1 : Nat))]) [(0, _), (1, _), (2, _), (6, _), (3, _)] (fun x => [(nb, blk (bCells x.2) 124)]) (fun x => []) [(n1, _)] (fun x => 8 - x.1) (0, b) (⟨by omega, rfl⟩) rfl (.c rfl .n) (.c rfl (.c rfl (.c rfl (.c rfl (.c rfl .n))))) (.c 0 rfl .n) ?_
  rintro ⟨i, c⟩ ⟨hi, hcc⟩
  dsimp only at hi hcc ⊢
  refine kSeq ?_
  refine kRegion rfl ?_
  refine lV (yLss rfl rfl) rfl rfl ?_
  refine lNil ?_
  refine kThen ?_
  refine kSeq ?_
  refine split (t := 8) rfl (fun h8 => ?_) (fun h8 => ?_)
  · refine kIfT rfl ?_
    refine kSkip ?_
    refine kThen ?_
    refine kSeq ?_
    refine kBlock ?_
    refine kSeq ?_
    refine kRegion rfl ?_
    refine lV (yMove rfl) rfl rfl ?_
    refine lV (yAssign rfl) rfl rfl ?_
    refine lNil ?_
    refine kThen ?_
    refine kRegion rfl ?_
    refine lV (yMove rfl) rfl rfl ?_
    refine lV (yMove rfl) rfl rfl ?_
    refine lE rfl ?_
    refine eCallWM 0 rfl rfl (.c rfl .n) C147 (fun w hw hb => close1_any c nb n1 i (6 ^ i * A) w hb (hw.blkAt 1 rfl) (by have := hw.new (n1, blk [.pointer (some ⟨nb, 0, none⟩)] 157) (by simp); simp only at this; omega) (by omega) (hpow i (by omega)).1 (hpow i (by omega)).2 (hcc ▸ Bd.closeP hA hB i (by omega))) ?_
    refine lNil ?_
    refine kInN ?_
    refine kThen ?_
    refine kRegion rfl ?_
    refine lV (yAdd rfl rfl (by omega)) rfl rfl ?_
    refine lV (yMove rfl) rfl rfl ?_
    refine lNil ?_
    exact kRoundX (i + 1, roundP c i 8) (⟨by dsimp only; omega, by dsimp only; rw [closeP_succ, ← hcc]⟩) (by dsimp only; omega) rfl (.c rfl .n) (.c rfl (.c rfl (.c rfl (.c rfl (.c rfl .n))))) (.c 0 rfl .n)
  · refine kIfF rfl ?_
    refine kExit ?_
    refine kThenX ?_
    refine kThenX ?_
    refine kInX ?_
    refine kThen ?_
    refine kSeq ?_
    refine kSeq ?_
    refine kRegion rfl ?_
    refine lV (yMove rfl) rfl rfl ?_
    refine lNil ?_
    refine kThen ?_
    refine kBlock ?_
    refine kLoopX (ι := Nat) (fun i => i ≤ 8 ∧ ∀ j, j < i → 0 ≤ c j j) (fun i => [(14, i64 (i : Nat))]) [(0, _), (1, _), (6, _), (3, _), (7, _), (8, _)] (fun i => [(nb, blk (bCells c) 124)]) (fun i => []) [(n1, _)] (fun i => 8 - i) 0 (⟨by omega, fun j hj => absurd hj (by omega)⟩) rfl (.c rfl .n) (.c rfl (.c rfl (.c rfl (.c rfl (.c rfl (.c rfl .n)))))) (.c 0 rfl .n) ?_
    rintro j ⟨hj, hd⟩
    refine kSeq ?_
    refine kRegion rfl ?_
    refine lV (yLss rfl rfl) rfl rfl ?_
    refine lNil ?_
    refine kThen ?_
    refine kSeq ?_
    refine split (t := 15) rfl (fun h15 => ?_) (fun h15 => ?_)
    · refine kIfT rfl ?_
      refine kSkip ?_
      refine kThen ?_
      refine kSeq ?_
      refine kBlock ?_
      refine kSeq ?_
      refine kRegion rfl ?_
      refine lV (yMove rfl) rfl rfl ?_
      refine lV (yAssign rfl) rfl rfl ?_
      refine lNil ?_
      refine kThen ?_
      refine kSeq ?_
      refine kRegion rfl ?_
      refine lV (yLoad1 rfl O157 (cOwn 1 rfl rfl)) rfl rfl ?_
      refine lV (yMove rfl) rfl rfl ?_
      refine lV (yMove rfl) rfl rfl ?_
      refine lV (yNilCheckP rfl) rfl rfl ?_
      refine lV (yIndexN rfl rfl R124 ((by omega))) rfl rfl ?_
      refine lV (yIndexN rfl rfl R122 ((by omega))) rfl rfl ?_
      refine lV (yLoad1 rfl O3 (cOwn 0 rfl (bSub c (by omega) (by omega)))) rfl rfl ?_
      refine lV (yLss rfl rfl) rfl rfl ?_
      refine lNil ?_
      refine kThen ?_
      refine split (t := 24) rfl (fun h24 => ?_) (fun h24 => ?_)
      · refine kIfT rfl ?_
        refine kSeq ?_
        refine kRegion rfl ?_
        refine lV (yAssign rfl) rfl rfl ?_
        refine lNil ?_
        refine kThen ?_
        refine kRet ?_
        refine kInR ?_
        refine kThenR ?_
        refine kThenR ?_
        refine kInR ?_
        refine kThenR ?_
        refine fRet rfl (.t rfl .n) ?_
        refine endW ?_ (by rw [hcc, show i = 8 from by omega])
        simp only [packV]
        obtain rfl : i = 8 := by omega
        rw [← hcc, decide_eq_false fun h : diagOk c => by have := h j (by omega); omega]
      · refine kIfF rfl ?_
        refine kSkip ?_
        refine kInN ?_
        refine kThen ?_
        refine kRegion rfl ?_
        refine lV (yAdd rfl rfl (by omega)) rfl rfl ?_
        refine lV (yMove rfl) rfl rfl ?_
        refine lNil ?_
        exact kRoundX (j + 1) (⟨by omega, fun x hx => by rcases Nat.lt_or_ge x j with h | h; (· exact hd x h); (obtain rfl : x = j := (by omega)); omega⟩) (by omega) rfl (.c rfl .n) (.c rfl (.c rfl (.c rfl (.c rfl (.c rfl (.c rfl .n)))))) (.c 0 rfl .n)
    · refine kIfF rfl ?_
      refine kExit ?_
      refine kThenX ?_
      refine kThenX ?_
      refine kInX ?_
      refine kThen ?_
      refine kSeq ?_
      refine kRegion rfl ?_
      refine lV (yAssign rfl) rfl rfl ?_
      refine lNil ?_
      refine kThen ?_
      refine kRet ?_
      refine fRet rfl (.t rfl .n) ?_
      refine endW ?_ (by rw [hcc, show i = 8 from by omega])
      simp only [packV]
      obtain rfl : i = 8 := by omega
      rw [← hcc, decide_eq_true (p := diagOk c) fun j' h => hd j' (by omega)]

set_option maxRecDepth 100000 in
theorem between_any (b : BMat) (nb f t : Nat) (w : World) (hb : w.heap[nb]? = some (blk (bCells b) 124)) (hf : f < 8) (ht : t < 8) (hlo : In64 (-b t f)) :
    Calls Try.prog 100 [.pointer (some ⟨nb, 0, none⟩), i64 (f : Nat), i64 (t : Nat)].toArray w (Ret w (.agg [i64 (-b t f), i64 (b f t)].toArray)) := by
  refine fEnterM (Eff.one hb) Try.func100 rfl Try.ntmps100 rfl ?_
  refine kSeq ?_
  refine kRegion rfl ?_
  refine lE rfl ?_
  refine eAlloc Z23 fun n6 => ?_
  refine lNil ?_
  refine kThen ?_
  refine kSeq ?_
  refine kDrawE [(6, none), (14, none)] [] [0, 1, 2, 3, 4, 5, 6, 7, 8, 9, 10, 11, 12, 13, 14, 15] 1 hMix (by kernel_rfl) ?_
  refine .run rfl (yMove rfl) rfl rfl ?_
  refine .run rfl (yMove rfl) rfl rfl ?_
  refine .run rfl (yMove rfl) rfl rfl ?_
  refine .run rfl (yNilCheckP rfl) rfl rfl ?_
  refine .run rfl (yIndexN rfl rfl R124 (ht)) rfl rfl ?_
  refine .run rfl (yIndexN rfl rfl R122 (hf)) rfl rfl ?_
  refine .run rfl (yLoad1 rfl O3 (cOwn 0 rfl (bSub b ht hf))) rfl rfl ?_
  refine .run rfl (yNeg rfl (hlo)) rfl rfl ?_
  refine .run rfl (yMove rfl) rfl rfl ?_
  refine .run rfl (yMove rfl) rfl rfl ?_
  refine .run rfl (yMove rfl) rfl rfl ?_
  refine .run rfl (yNilCheckP rfl) rfl rfl ?_
  refine .run rfl (yIndexN rfl rfl R124 (hf)) rfl rfl ?_
  refine .run rfl (yIndexN rfl rfl R122 (ht)) rfl rfl ?_
  refine .run rfl (yLoad1 rfl O3 (cOwn 0 rfl (bSub b hf ht))) rfl rfl ?_
  refine .run rfl (yBuild (.c rfl (.c rfl .n)) (fun w => B23_0_1 w)) rfl rfl ?_
  refine .done ?_
  refine effStep 16 [] (by kernel_rfl) closedSt (hLeft [6, 14] (by kernel_rfl) (.c (fun _ _ hs => hs.ef) (.c (fun _ _ hs => hs.ef) .n))) ?_
  refine .c ?_ .n
  refine effOne rfl (gNone rfl (fStoreL 0 rfl rfl rfl rfl K23 rfl (rfl))) ?_
  refine effDone closedSt (hLeft [] (by kernel_rfl) .n) (by kernel_rfl) ?_
  refine kThen ?_
  refine kRet ?_
  refine fRet rfl (.cA (us := [_, _]) rfl A23 (cOwn 1 rfl rfl) .n) (endRetM ((Eff.one hb)) ?_)
  rfl

theorem MT174 : methT Try.prog 174 "zoneworks/screw.tell" = some 171 := by kernel_rfl
theorem MT175 : methT Try.prog 175 "zoneworks/screw.tell" = some 172 := by kernel_rfl

set_option maxRecDepth 100000 in
theorem turned_any (b : BMat) (nb g : Nat) (x : Int × Int) (w : World) (hb : w.heap[nb]? = some (blk (bCells b) 124)) (hg : g < 6) (hlo : In64 (-x.1)) :
    Calls Try.prog 171 [.agg [i64 (g : Nat), i64 x.1, i64 x.2].toArray, .pointer (some ⟨nb, 0, none⟩)].toArray w (Wr w nb (blk (bCells (tellP b (g, x, true))) 124) (.tuple #[])) := by
  refine fEnterM (Eff.one hb) Try.func171 rfl Try.ntmps171 rfl ?_
  refine kSeq ?_
  refine kRegion rfl ?_
  refine lE rfl ?_
  refine eBoxA rfl fun n2 => ?_
  refine lNil ?_
  refine kThen ?_
  refine kRegion rfl ?_
  refine lV (yMove rfl) rfl rfl ?_
  refine lV (yFieldAddr rfl F174_0) rfl rfl ?_
  refine lV (yLoad1 rfl O3 (cOwn 1 rfl rfl)) rfl rfl ?_
  refine lV (yAdd rfl rfl (by omega)) rfl rfl ?_
  refine same (t := 7) (u := i64 ((2 + g : Nat) : Int)) rfl (by rw [Int.natCast_add]; rfl) ?_
  refine lV (yFieldAddr rfl F174_1) rfl rfl ?_
  refine lV (yLoadA (vs := [_, _]) rfl A171 (cOwn 1 rfl rfl)) rfl rfl ?_
  refine lE rfl ?_
  refine eCallWM 0 rfl rfl (.c rfl (.c rfl (.c rfl (.c rfl .n)))) C137 (fun w hw hb => put_any b nb (2 + g) 1 x.1 x.2 w hb (by omega) (by omega) hlo) ?_
  refine lNil ?_
  refine fEnd rfl .n ?_
  exact endW rfl rfl
set_option maxRecDepth 100000 in
theorem plain_any (b : BMat) (nb g : Nat) (x : Int × Int) (w : World) (hb : w.heap[nb]? = some (blk (bCells b) 124)) (hg : g < 6) (hlo : In64 (-x.1)) :
    Calls Try.prog 172 [.agg [i64 (g : Nat), i64 x.1, i64 x.2].toArray, .pointer (some ⟨nb, 0, none⟩)].toArray w (Wr w nb (blk (bCells (tellP b (g, x, false))) 124) (.tuple #[])) := by
  refine fEnterM (Eff.one hb) Try.func172 rfl Try.ntmps172 rfl ?_
  refine kSeq ?_
  refine kRegion rfl ?_
  refine lE rfl ?_
  refine eBoxA rfl fun n2 => ?_
  refine lNil ?_
  refine kThen ?_
  refine kRegion rfl ?_
  refine lV (yMove rfl) rfl rfl ?_
  refine lV (yFieldAddr rfl F175_0) rfl rfl ?_
  refine lV (yLoad1 rfl O3 (cOwn 1 rfl rfl)) rfl rfl ?_
  refine lV (yAdd rfl rfl (by omega)) rfl rfl ?_
  refine same (t := 7) (u := i64 ((2 + g : Nat) : Int)) rfl (by rw [Int.natCast_add]; rfl) ?_
  refine lV (yFieldAddr rfl F175_1) rfl rfl ?_
  refine lV (yLoadA (vs := [_, _]) rfl A171 (cOwn 1 rfl rfl)) rfl rfl ?_
  refine lE rfl ?_
  refine eCallWM 0 rfl rfl (.c rfl (.c rfl (.c rfl (.c rfl .n)))) C137 (fun w hw hb => put_any b nb 0 (2 + g) x.1 x.2 w hb (by omega) (by omega) hlo) ?_
  refine lNil ?_
  refine fEnd rfl .n ?_
  exact endW rfl rfl
end Go.Proofs.Ytlcdohhhhlhpmaa.Scr
namespace Go.Proofs.Ytlcdohhhhlhpmaa.Scr
open ZW

/-- How many there are in a set. -/
def popF : Nat → Nat → Nat
  | 0, _ => 0
  | f + 1, n => n % 2 + popF f (n / 2)
def popc (n : Nat) : Nat := popF 13 n
/-! ### A measure that is looked at -/
abbrev tellV (t : Told) : Value := if t.2.2 = true then .iface 174 (.agg [i64 (t.1 : Nat), i64 t.2.1.1, i64 t.2.1.2].toArray) else .iface 175 (.agg [i64 (t.1 : Nat), i64 t.2.1.1, i64 t.2.1.2].toArray)
abbrev rowT (t : Told) : List Value := [tellV t]
abbrev told0 : Told := (0, (0, 0), false)
abbrev msC (y : Loc) (m : Meas) (g : Own) (n : Nat) : List Value := [.slice y.ea m.errs.length y.ec, i64 m.eye.1, i64 m.eye.2, i64 m.images, i64 m.sum.1, i64 m.sum.2, .slice y.sa m.sets.length y.sc, osV g n]
/-- In this world a measure that is looked at lies at nm. -/
structure InMs (w : World) (nm : Nat) (y : Loc) (m : Meas) (g : Own) : Prop where
  b : w.heap[nm]? = some (blk (msC y m g m.sets.length) 151)
  t : SlE w (osA g) m.sets.length 1 (fun i => rowT ((toldP m).getD i told0))
  m : InM w y m
theorem toldP_length (m : Meas) : (toldP m).length = m.sets.length := by simp [toldP]
theorem InMs.eff {w w' : World} {L : Heap} {nm : Nat} {y : Loc} {m : Meas} {g : Own} (h : InMs w nm y m g) (he : Eff w [] L w') : InMs w' nm y m g := ⟨Eff.old' he h.b, h.t.eff0 he, h.m.eff he⟩

set_option maxRecDepth 100000 in
theorem every_any (nm : Nat) (y : Loc) (m : Meas) (g : Own) (w : World) (hb : w.heap[nm]? = some (blk (msC y m g m.sets.length) 151)) (hn : m.sets.length ≤ 12) :
    Calls Try.prog 122 [.pointer (some ⟨nm, 0, none⟩)].toArray w (Ret w (.int .u64 ((2 ^ m.sets.length - 1 : Nat) : Int))) := by
  have hp : 2 ^ m.sets.length ≤ 2 ^ 12 := Nat.pow_le_pow_right (by omega) hn
  have hp0 : 0 < 2 ^ m.sets.length := Nat.two_pow_pos _
  refine fEnterM (Eff.one hb) Try.func122 rfl Try.ntmps122 rfl ?_
  refine kSeq ?_
  refine kRegion rfl ?_
  refine lV (yAssign rfl) rfl rfl ?_
  refine lNil ?_
  refine kThen ?_
  refine kSeq ?_
  refine kRegion rfl ?_
  refine lV (yMove rfl) rfl rfl ?_
  refine lV (yNilCheckP rfl) rfl rfl ?_
  refine lV (yFieldAddr rfl F151_1) rfl rfl ?_
  refine lV (yLoad1 rfl O149 (cOwn 0 rfl rfl)) rfl rfl ?_
  refine lV (yLen rfl S149) rfl rfl ?_
  refine lV (yShl (a := 1) rfl rfl rfl (by omega) (by omega)) rfl rfl ?_
  refine lV (ySubN (b := 1) rfl rfl rfl (by omega)) rfl rfl ?_
  refine lV (yAssign rfl) rfl rfl ?_
  refine lNil ?_
  refine kThen ?_
  refine kRet ?_
  refine fRet rfl (.t rfl .n) (endRetM ((Eff.one hb)) ?_)
  simp only [packV, Nat.one_mul]
end Go.Proofs.Ytlcdohhhhlhpmaa.Scr
namespace Go.Proofs.Ytlcdohhhhlhpmaa.Scr
open ZW

set_option maxRecDepth 100000 in
theorem open_bad (y : Loc) (m : Meas) (w : World) (hm : InM w y m) (hM : ¬ MeasOk m) : Calls Try.prog 118 [.agg (measC y m).toArray].toArray w (Pan w (.iface 146 (.agg [i64 1].toArray))) := by
  refine fEnter Try.func118 rfl Try.ntmps118 rfl ?_
  refine kSeq ?_
  refine kRegion rfl ?_
  refine lE rfl ?_
  refine eBoxA rfl fun n1 => ?_
  refine lV (yAssign rfl) rfl rfl ?_
  refine lNil ?_
  refine kThen ?_
  refine kSeq ?_
  refine kRegion rfl ?_
  refine lV (yLoadA (vs := [_, _, _, _, _, _, _]) rfl A75 (cOwn 0 rfl rfl)) rfl rfl ?_
  refine lV (yCall rfl (.c rfl .n) C134 (fun w hw => isMeasure_any y m w (hm.eff hw))) rfl rfl ?_
  refine knownB (t := 8) (c := false) rfl (decide_eq_false hM) ?_
  refine lE rfl ?_
  refine eCallP rfl (.c rfl (.c rfl .n)) C119 (fun w hw => need_pan 1 w) ?_
  refine kThenP ?_
  exact fPan (endPan rfl)

theorem told_get (m : Meas) {i : Nat} (hi : i < m.sets.length) : (toldP m).getD i told0 = ((m.sets.getD i (0, 0, false)).1.toNat, travelP m (m.sets.getD i (0, 0, false)).2.1, (m.sets.getD i (0, 0, false)).2.2) := by
  rw [← List.getElem_eq_getD (h := by rw [toldP_length]; exact hi), ← List.getElem_eq_getD (h := hi)]
  simp [toldP]
theorem told_take (m : Meas) {i : Nat} (hi : i < m.sets.length) : ((toldP m).take (i + 1)).map rowT = ((toldP m).take i).map rowT ++ [rowT ((toldP m).getD i told0)] := by
  have hl : i < (toldP m).length := by rw [toldP_length]; exact hi
  rw [List.take_add_one, List.map_append, List.getElem?_eq_getElem hl, ← List.getElem_eq_getD (h := hl)]
  rfl
theorem told_row1 (m : Meas) {i : Nat} (hi : i < m.sets.length) (h : (m.sets.getD i (0, 0, false)).2.2 = true) : rowT ((toldP m).getD i told0) =
    [.iface 174 (.agg [i64 ((m.sets.getD i (0, 0, false)).1.toNat : Nat), i64 (travelP m (m.sets.getD i (0, 0, false)).2.1).1, i64 (travelP m (m.sets.getD i (0, 0, false)).2.1).2].toArray)] := by
  rw [told_get m hi]; simp only [rowT, tellV, h, if_true]
theorem told_row2 (m : Meas) {i : Nat} (hi : i < m.sets.length) (h : (m.sets.getD i (0, 0, false)).2.2 = false) : rowT ((toldP m).getD i told0) =
    [.iface 175 (.agg [i64 ((m.sets.getD i (0, 0, false)).1.toNat : Nat), i64 (travelP m (m.sets.getD i (0, 0, false)).2.1).1, i64 (travelP m (m.sets.getD i (0, 0, false)).2.1).2].toArray)] := by
  rw [told_get m hi]; simp only [rowT, tellV, h, Bool.false_eq_true, if_false]

/-- What opening a measure makes. -/
abbrev openL (y : Loc) (m : Meas) (x : Nat × Own) : Heap := [(x.1, blk (msC y m x.2 m.sets.length) 151)] ++ osL 179 x.2

set_option maxRecDepth 100000 in
theorem open_any (y : Loc) (m : Meas) (w : World) (hm : InM w y m) (hM : MeasOk m) : Calls Try.prog 118 [.agg (measC y m).toArray].toArray w
    (RetX w (fun x : Nat × Own => OS 1 x.2 ((toldP m).map rowT)) (fun x => .pointer (some ⟨x.1, 0, none⟩)) (fun _ => []) (openL y m)) := by
  have hN := hM.n
  refine fEnter Try.func118 rfl Try.ntmps118 rfl ?_
  refine kSeq ?_
  refine kRegion rfl ?_
  refine lE rfl ?_
  refine eBoxA rfl fun n1 => ?_
  refine lV (yAssign rfl) rfl rfl ?_
  refine lNil ?_
  refine kThen ?_
  refine kSeq ?_
  refine kRegion rfl ?_
  refine lV (yLoadA (vs := [_, _, _, _, _, _, _]) rfl A75 (cOwn 0 rfl rfl)) rfl rfl ?_
  refine lV (yCall rfl (.c rfl .n) C134 (fun w hw => isMeasure_any y m w (hm.eff hw))) rfl rfl ?_
  refine knownB (t := 8) (c := true) rfl (decide_eq_true hM) ?_
  refine lV (yCall rfl (.c rfl (.c rfl .n)) C119 (fun w hw => need_ok 1 w)) rfl rfl ?_
  refine lNil ?_
  refine kThen ?_
  refine kSeq ?_
  refine kRegion rfl ?_
  refine lV (yLoadA (vs := [_, _, _, _, _, _, _]) rfl A75 (cOwn 0 rfl rfl)) rfl rfl ?_
  refine lV (yBuild (.c rfl .n) (fun w => B151_0 w)) rfl rfl ?_
  refine lE rfl ?_
  refine eBoxA rfl fun n12 => ?_
  refine lV (yAssign rfl) rfl rfl ?_
  refine lNil ?_
  refine kThen ?_
  refine kSeq ?_
  refine kSeq ?_
  refine kRegion rfl ?_
  refine lV (yFieldAddr rfl F75_3) rfl rfl ?_
  refine lV (yLoad1 rfl O73 (cOwn 1 rfl rfl)) rfl rfl ?_
  refine lV (yLen rfl S73) rfl rfl ?_
  refine lV (yMove rfl) rfl rfl ?_
  refine lNil ?_
  refine kThen ?_
  refine kBlock ?_
  refine kLoopX (ι := Nat × Own × List (List Value)) (fun x => x.1 ≤ m.sets.length ∧ x.2.2 = ((toldP m).take x.1).map rowT ∧ OS 1 x.2.1 x.2.2) (fun x => [(16, i64 (x.1 : Nat))]) [(0, _), (1, _), (2, _), (7, _), (8, _), (9, _), (10, _), (11, _), (12, _), (3, _), (13, _), (14, _), (15, _)] (fun x => []) (fun x => ([(n12, blk (msC y m x.2.1 x.2.2.length) 151)] ++ osL 179 x.2.1)) [(n1, _)] (fun x => m.sets.length - x.1) (0, .e none, []) (⟨Nat.zero_le _, by simp, OS.empty⟩) rfl (.c rfl .n) (.c rfl (.c rfl (.c rfl (.c rfl (.c rfl (.c rfl (.c rfl (.c rfl (.c rfl (.c rfl (.c rfl (.c rfl (.c rfl .n))))))))))))) (.c 1 rfl (.c 0 rfl .n)) ?_
  rintro ⟨i, g, es⟩ ⟨hi, hes, hg⟩
  dsimp only at hi hes hg ⊢
  refine kSeq ?_
  refine kRegion rfl ?_
  refine lV (yLss rfl rfl) rfl rfl ?_
  refine lNil ?_
  refine kThen ?_
  refine kSeq ?_
  refine split (t := 17) rfl (fun h17 => ?_) (fun h17 => ?_)
  · refine kIfT rfl ?_
    refine kSkip ?_
    refine kThen ?_
    refine kSeq ?_
    refine kBlock ?_
    refine kSeq ?_
    refine kRegion rfl ?_
    refine lV (yIndexS  rfl rfl S73 (hm.s.r) ((by omega))) rfl rfl ?_
    refine lV (yLoadA (vs := [_, _, _]) rfl A78 (cSl0 (hm.s.r) ((by omega)) rfl)) rfl rfl ?_
    refine lE rfl ?_
    refine eAlloc Z78 fun n5 => ?_
    refine lE rfl ?_
    refine eStoreL 0 rfl rfl rfl rfl K78 rfl (rfl) ?_
    refine lNil ?_
    refine kThen ?_
    refine kSeq ?_
    refine kRegion rfl ?_
    refine lV (yFieldAddr rfl F75_0) rfl rfl ?_
    refine lV (yLoadA (vs := [_, _, _]) rfl A72 (cOwn 1 rfl rfl)) rfl rfl ?_
    refine lV (yFieldAddr rfl F78_1) rfl rfl ?_
    refine lV (yLoad1 rfl O3 (cOwn 0 rfl rfl)) rfl rfl ?_
    refine lV (yCall rfl (.c rfl (.c rfl .n)) C135 (fun w hw => travel_any y m _ w (hm.eff hw) hM.s (hM.a _ (getD_mem (by omega) _)).2)) rfl rfl ?_
    refine lE rfl ?_
    refine eAlloc Z171 fun n6 => ?_
    refine lE rfl ?_
    refine eStoreL 0 rfl rfl rfl rfl K171 rfl (rfl) ?_
    refine lNil ?_
    refine kThen ?_
    refine kSeq ?_
    refine kRegion rfl ?_
    refine lV (yFieldAddr rfl F78_2) rfl rfl ?_
    refine lV (yLoad1 rfl O4 (cOwn 1 rfl rfl)) rfl rfl ?_
    refine lNil ?_
    refine kThen ?_
    refine splitB (t := 26) rfl (fun h26 => ?_) (fun h26 => ?_)
    · refine kIfT rfl ?_
      refine kDrawE [(4, none), (6, none), (7, none)] [] [0, 1, 2, 3, 4, 5, 6, 7, 8, 9, 12, 13] 3 hMix (by kernel_rfl) ?_
      refine .run rfl (yMove rfl) rfl rfl ?_
      refine .run rfl (yMove rfl) rfl rfl ?_
      refine .run rfl (yNilCheckP rfl) rfl rfl ?_
      refine .run rfl (yFieldAddr rfl F151_1) rfl rfl ?_
      refine .run rfl (yLoad1 rfl O149 (cOwn 3 rfl rfl)) rfl rfl ?_
      refine .run rfl (yFieldAddr rfl F78_0) rfl rfl ?_
      refine .run rfl (yvSame (u := i64 ((m.sets.getD i (0, 0, false)).1.toNat : Nat)) (yLoad1 rfl O3 (cOwn 1 rfl rfl)) (by rw [Int.toNat_of_nonneg (hM.a _ (getD_mem (by omega) _)).1.1])) rfl rfl ?_
      refine .run rfl (yLoadA (vs := [_, _]) rfl A171 (cOwn 0 rfl rfl)) rfl rfl ?_
      refine .run rfl (yBuild (.c rfl (.c rfl .n)) (fun w => B174_0_1 w)) rfl rfl ?_
      refine .run rfl (yMakeInterface rfl I174) rfl rfl ?_
      refine .run rfl (yNilCheckP rfl) rfl rfl ?_
      refine .run rfl (yFieldAddr rfl F151_1) rfl rfl ?_
      refine .done ?_
      refine effStep 10 [] (by kernel_rfl) closedSt (hLeft [4, 6, 7] (by kernel_rfl) (.c (fun _ _ hs => hs.ef) (.c (fun _ _ hs => hs.ef) (.c (fun _ _ hs => hs.ef) .n)))) ?_
      refine .c ?_ .n
      refine effOne rfl (gNone rfl (fBuildSlice (.c rfl .n) (fun w => BS149_1_0 w))) ?_
      refine effStep 11 [] (by kernel_rfl) (closedEx fun n37 => closedSt) (hLeft [4] (by kernel_rfl) (.c (fun _ _ ⟨n37, hs⟩ => hs.ef.sub (.c 1 rfl (.c 1 rfl (.c 1 rfl (.c 1 rfl (.d 0 .r)))))) .n)) ?_
      refine .c ?_ .n
      refine effOne rfl (opEx fun n37 => (gNone rfl (fAppend (gs := g) [(n37, _), (n6, _), (n5, _), (n1, _), (n12, _)] [rowT ((toldP m).getD i told0)] AP149 rfl rfl .r hg rfl (by simp) (SlN.own 0 rfl (by rw [told_row1 m (i := i) (by omega) h26]; rfl)) (by rw [told_row1 m (i := i) (by omega) h26]; simp; rfl) (by have := hM.n; simp [hes, toldP]; omega) (by have := hM.n; simp [hes, toldP]; omega)))) ?_
      refine effStep 14 [] (by kernel_rfl) (closedEx fun n37 => (closedEx fun h => closedSt)) (hLeft [] (by kernel_rfl) .n) ?_
      refine .c ?_ .n
      refine effOne rfl (opEx fun n37 => (opEx fun h => (gNone rfl (fStoreL 4 rfl rfl rfl rfl K149 rfl (rfl))))) ?_
      refine effDone (closedEx fun n37 => (closedEx fun h => closedSt)) (hLeft [] (by kernel_rfl) .n) (by kernel_rfl) ?_
      refine trEx fun n37 => ?_
      refine trEx fun h => ?_
      refine kInN ?_
      refine kThen ?_
      refine kRegion rfl ?_
      refine lV (yAdd rfl rfl (by omega)) rfl rfl ?_
      refine lV (yMove rfl) rfl rfl ?_
      refine lNil ?_
      exact kRoundX (i + 1, h.1, es ++ [rowT ((toldP m).getD i told0)]) (⟨by dsimp only; omega, by dsimp only; rw [told_take m (by omega), hes], h.2⟩) (by dsimp only; omega) rfl (.c rfl .n) (.c rfl (.c rfl (.c rfl (.c rfl (.c rfl (.c rfl (.c rfl (.c rfl (.c rfl (.c rfl (.c rfl (.c rfl (.c rfl .n))))))))))))) (.c 3 rfl (.c 3 rfl (.d 0 (.d 0 (.d 0 .r)))))
    · refine kIfF rfl ?_
      refine kDrawE [(4, none), (6, none), (7, none)] [] [0, 1, 2, 3, 4, 5, 6, 7, 8, 9, 12, 13] 3 hMix (by kernel_rfl) ?_
      refine .run rfl (yMove rfl) rfl rfl ?_
      refine .run rfl (yMove rfl) rfl rfl ?_
      refine .run rfl (yNilCheckP rfl) rfl rfl ?_
      refine .run rfl (yFieldAddr rfl F151_1) rfl rfl ?_
      refine .run rfl (yLoad1 rfl O149 (cOwn 3 rfl rfl)) rfl rfl ?_
      refine .run rfl (yFieldAddr rfl F78_0) rfl rfl ?_
      refine .run rfl (yvSame (u := i64 ((m.sets.getD i (0, 0, false)).1.toNat : Nat)) (yLoad1 rfl O3 (cOwn 1 rfl rfl)) (by rw [Int.toNat_of_nonneg (hM.a _ (getD_mem (by omega) _)).1.1])) rfl rfl ?_
      refine .run rfl (yLoadA (vs := [_, _]) rfl A171 (cOwn 0 rfl rfl)) rfl rfl ?_
      refine .run rfl (yBuild (.c rfl (.c rfl .n)) (fun w => B175_0_1 w)) rfl rfl ?_
      refine .run rfl (yMakeInterface rfl I175) rfl rfl ?_
      refine .run rfl (yNilCheckP rfl) rfl rfl ?_
      refine .run rfl (yFieldAddr rfl F151_1) rfl rfl ?_
      refine .done ?_
      refine effStep 10 [] (by kernel_rfl) closedSt (hLeft [4, 6, 7] (by kernel_rfl) (.c (fun _ _ hs => hs.ef) (.c (fun _ _ hs => hs.ef) (.c (fun _ _ hs => hs.ef) .n)))) ?_
      refine .c ?_ .n
      refine effOne rfl (gNone rfl (fBuildSlice (.c rfl .n) (fun w => BS149_1_0 w))) ?_
      refine effStep 11 [] (by kernel_rfl) (closedEx fun n51 => closedSt) (hLeft [4] (by kernel_rfl) (.c (fun _ _ ⟨n51, hs⟩ => hs.ef.sub (.c 1 rfl (.c 1 rfl (.c 1 rfl (.c 1 rfl (.d 0 .r)))))) .n)) ?_
      refine .c ?_ .n
      refine effOne rfl (opEx fun n51 => (gNone rfl (fAppend (gs := g) [(n51, _), (n6, _), (n5, _), (n1, _), (n12, _)] [rowT ((toldP m).getD i told0)] AP149 rfl rfl .r hg rfl (by simp) (SlN.own 0 rfl (by rw [told_row2 m (i := i) (by omega) h26]; rfl)) (by rw [told_row2 m (i := i) (by omega) h26]; simp; rfl) (by have := hM.n; simp [hes, toldP]; omega) (by have := hM.n; simp [hes, toldP]; omega)))) ?_
      refine effStep 14 [] (by kernel_rfl) (closedEx fun n51 => (closedEx fun h => closedSt)) (hLeft [] (by kernel_rfl) .n) ?_
      refine .c ?_ .n
      refine effOne rfl (opEx fun n51 => (opEx fun h => (gNone rfl (fStoreL 4 rfl rfl rfl rfl K149 rfl (rfl))))) ?_
      refine effDone (closedEx fun n51 => (closedEx fun h => closedSt)) (hLeft [] (by kernel_rfl) .n) (by kernel_rfl) ?_
      refine trEx fun n51 => ?_
      refine trEx fun h => ?_
      refine kInN ?_
      refine kThen ?_
      refine kRegion rfl ?_
      refine lV (yAdd rfl rfl (by omega)) rfl rfl ?_
      refine lV (yMove rfl) rfl rfl ?_
      refine lNil ?_
      exact kRoundX (i + 1, h.1, es ++ [rowT ((toldP m).getD i told0)]) (⟨by dsimp only; omega, by dsimp only; rw [told_take m (by omega), hes], h.2⟩) (by dsimp only; omega) rfl (.c rfl .n) (.c rfl (.c rfl (.c rfl (.c rfl (.c rfl (.c rfl (.c rfl (.c rfl (.c rfl (.c rfl (.c rfl (.c rfl (.c rfl .n))))))))))))) (.c 3 rfl (.c 3 rfl (.d 0 (.d 0 (.d 0 .r)))))
  · refine kIfF rfl ?_
    refine kExit ?_
    refine kThenX ?_
    refine kThenX ?_
    refine kInX ?_
    refine kThen ?_
    refine kSeq ?_
    refine kRegion rfl ?_
    refine lV (yMove rfl) rfl rfl ?_
    refine lV (yAssign rfl) rfl rfl ?_
    refine lNil ?_
    refine kThen ?_
    refine kRet ?_
    refine fRet rfl (.t rfl .n) ?_
    have hl : es = (toldP m).map rowT := by rw [hes, List.take_of_length_le (by rw [toldP_length]; omega)]
    have hn : es.length = m.sets.length := by rw [hl, List.length_map, toldP_length]
    rw [hn]
    exact endX (n12, g) (hl ▸ hg) rfl rfl (.d 0 .r)
end Go.Proofs.Ytlcdohhhhlhpmaa.Scr
