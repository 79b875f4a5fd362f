/-
  Walks: the document's screw.
-/
import Derived.Test.YtiaaidcdoenloaaPa
namespace Go.Proofs.Ytiaaidcdoenloaa
open ZW
set_option maxRecDepth 100000 in
theorem rin_any (n a b : Int) (w : World) : Calls Try.prog 96 [i64 n, i64 a, i64 b].toArray w (Ret w (.bool (decide (a ≤ n ∧ n ≤ b)))) := by
  refine fEnter Try.func96 rfl Try.ntmps96 rfl ?_
  refine kSeq ?_
  refine kRegion rfl ?_
  refine lV (yAssign rfl) rfl rfl ?_
  refine lNil ?_
  refine kThen ?_
  refine kSeq ?_
  refine kRegion rfl ?_
  refine lV (yMove rfl) rfl rfl ?_
  refine lV (yMove rfl) rfl rfl ?_
  refine lV (yLeq rfl rfl) rfl rfl ?_
  refine lV (yMove rfl) rfl rfl ?_
  refine split (t := 10) rfl (fun h10 => ?_) (fun h10 => ?_)
  · refine lGY rfl rfl rfl (oV (yMove rfl) rfl ?_)
    refine lGY rfl rfl rfl (oV (yMove rfl) rfl ?_)
    refine lGY rfl rfl rfl (oV (yLeq rfl rfl) rfl ?_)
    refine lV (yPickT rfl rfl) rfl rfl ?_
    refine lV (yAssign rfl) rfl rfl ?_
    refine lNil ?_
    refine kThen ?_
    refine kRet ?_
    refine fRet rfl (.t rfl .n) (endRet ?_)
    simp [packV, *]
  · refine lGN rfl rfl rfl rfl rfl ?_
    refine lGN rfl rfl rfl rfl rfl ?_
    refine lGN rfl rfl rfl rfl rfl ?_
    refine lV (yPickF rfl rfl) rfl rfl ?_
    refine lV (yAssign rfl) rfl rfl ?_
    refine lNil ?_
    refine kThen ?_
    refine kRet ?_
    refine fRet rfl (.t rfl .n) (endRet ?_)
    simp [packV, *]
set_option maxRecDepth 100000 in
theorem rspan_any (lo hi a b : Int) (w : World) : Calls Try.prog 95 [.agg [i64 lo, i64 hi].toArray, i64 a, i64 b].toArray w (Ret w (.bool (decide (a ≤ lo ∧ lo ≤ hi ∧ hi ≤ b)))) := by
  refine fEnter Try.func95 rfl Try.ntmps95 rfl ?_
  refine kSeq ?_
  refine kRegion rfl ?_
  refine lE rfl ?_
  refine eBoxA rfl fun n3 => ?_
  refine lV (yAssign rfl) rfl rfl ?_
  refine lNil ?_
  refine kThen ?_
  refine kSeq ?_
  refine kRegion rfl ?_
  refine lV (yMove rfl) rfl rfl ?_
  refine lV (yFieldAddr rfl F24_0) rfl rfl ?_
  refine lV (yLoad1 rfl O3 (cOwn 0 rfl rfl)) rfl rfl ?_
  refine lV (yLeq rfl rfl) rfl rfl ?_
  refine lV (yMove rfl) rfl rfl ?_
  refine split (t := 11) rfl (fun h11 => ?_) (fun h11 => ?_)
  · refine lGY rfl rfl rfl (oV (yFieldAddr rfl F24_0) rfl ?_)
    refine lGY rfl rfl rfl (oV (yLoad1 rfl O3 (cOwn 0 rfl rfl)) rfl ?_)
    refine lGY rfl rfl rfl (oV (yFieldAddr rfl F24_1) rfl ?_)
    refine lGY rfl rfl rfl (oV (yLoad1 rfl O3 (cOwn 0 rfl rfl)) rfl ?_)
    refine lGY rfl rfl rfl (oV (yLeq rfl rfl) rfl ?_)
    refine lV (yPickT rfl rfl) rfl rfl ?_
    refine lV (yMove rfl) rfl rfl ?_
    refine split (t := 18) rfl (fun h18 => ?_) (fun h18 => ?_)
    · refine lGY rfl rfl rfl (oV (yFieldAddr rfl F24_1) rfl ?_)
      refine lGY rfl rfl rfl (oV (yLoad1 rfl O3 (cOwn 0 rfl rfl)) rfl ?_)
      refine lGY rfl rfl rfl (oV (yMove rfl) rfl ?_)
      refine lGY rfl rfl rfl (oV (yLeq rfl rfl) rfl ?_)
      refine lV (yPickT rfl rfl) rfl rfl ?_
      refine lV (yAssign rfl) rfl rfl ?_
      refine lNil ?_
      refine kThen ?_
      refine kRet ?_
      refine fRet rfl (.t rfl .n) (endRet ?_)
      simp [packV, *]
    · refine lGN rfl rfl rfl rfl rfl ?_
      refine lGN rfl rfl rfl rfl rfl ?_
      refine lGN rfl rfl rfl rfl rfl ?_
      refine lGN rfl rfl rfl rfl rfl ?_
      refine lV (yPickF rfl rfl) rfl rfl ?_
      refine lV (yAssign rfl) rfl rfl ?_
      refine lNil ?_
      refine kThen ?_
      refine kRet ?_
      refine fRet rfl (.t rfl .n) (endRet ?_)
      simp [packV, *]
  · refine lGN rfl rfl rfl rfl rfl ?_
    refine lGN rfl rfl rfl rfl rfl ?_
    refine lGN rfl rfl rfl rfl rfl ?_
    refine lGN rfl rfl rfl rfl rfl ?_
    refine lGN rfl rfl rfl rfl rfl ?_
    refine lV (yPickF rfl rfl) rfl rfl ?_
    refine lV (yMove rfl) rfl rfl ?_
    refine lGN rfl rfl rfl rfl rfl ?_
    refine lGN rfl rfl rfl rfl rfl ?_
    refine lGN rfl rfl rfl rfl rfl ?_
    refine lGN rfl rfl rfl rfl rfl ?_
    refine lV (yPickF rfl rfl) rfl rfl ?_
    refine lV (yAssign rfl) rfl rfl ?_
    refine lNil ?_
    refine kThen ?_
    refine kRet ?_
    refine fRet rfl (.t rfl .n) (endRet ?_)
    simp [packV, *]

set_option maxRecDepth 100000 in
theorem rscrew_any (y : Loc) (m : Meas) (w : World) (hm : SlE w y.ea m.errs.length 2 (errC m.errs)) (hn : m.errs.length ≤ 1000000) : Calls Try.prog 68 [.agg (screwC y m).toArray].toArray w (Ret w (.bool (decide (ScrewOk m)))) := by
  refine fEnter Try.func68 rfl Try.ntmps68 rfl ?_
  refine kSeq ?_
  refine kRegion rfl ?_
  refine lE rfl ?_
  refine eBoxA rfl fun n1 => ?_
  refine lV (yAssign rfl) rfl rfl ?_
  refine lNil ?_
  refine kThen ?_
  refine kSeq ?_
  refine kSeq ?_
  refine kRegion rfl ?_
  refine lV (yAssign rfl) rfl rfl ?_
  refine lNil ?_
  refine kThen ?_
  refine kBlock ?_
  refine kLoopX (ι := Nat) (fun i => i ≤ m.errs.length ∧ ∀ j, j < i → spanOk (-100) 100 (m.errs.getD j (0, 0))) (fun i => [(3, i64 (i : Nat))]) [(0, _), (1, _)] (fun i => []) (fun i => []) [(n1, _)] (fun i => m.errs.length - i) 0 (⟨Nat.zero_le _, fun j hj => absurd hj (by omega)⟩) rfl (.c rfl .n) (.c rfl (.c rfl .n)) (.c 0 rfl .n) ?_
  rintro i ⟨hi, hok⟩
  refine kSeq ?_
  refine kSeq ?_
  refine kRegion rfl ?_
  refine lV (yMove rfl) rfl rfl ?_
  refine lV (yFieldAddr rfl F26_0) rfl rfl ?_
  refine lV (yLoad1 rfl O22 (cOwn 0 rfl rfl)) rfl rfl ?_
  refine lV (yLen rfl S22) rfl rfl ?_
  refine lV (yLss rfl rfl) rfl rfl ?_
  refine lNil ?_
  refine kThen ?_
  refine split (t := 8) rfl (fun h8 => ?_) (fun h8 => ?_)
  · refine kIfT rfl ?_
    refine kSkip ?_
    refine kThen ?_
    refine kSeq ?_
    refine kBlock ?_
    refine kSeq ?_
    refine kRegion rfl ?_
    refine lV (yFieldAddr rfl F26_0) rfl rfl ?_
    refine lV (yLoad1 rfl O22 (cOwn 0 rfl rfl)) rfl rfl ?_
    refine lV (yMove rfl) rfl rfl ?_
    refine lV (yIndexS  rfl rfl S22 (hm.r) ((by omega))) rfl rfl ?_
    refine lV (yLoadA (vs := [_, _]) rfl A24 (cSl0 (hm.r) ((by omega)) rfl)) rfl rfl ?_
    refine lV (yCall rfl (.c rfl (.c rfl (.c rfl .n))) C95 (fun w hw => rspan_any _ _ _ _ w)) rfl rfl ?_
    refine lV (yNot rfl) rfl rfl ?_
    refine lNil ?_
    refine kThen ?_
    refine splitB (t := 17) rfl (fun h17 => ?_) (fun h17 => ?_)
    · refine kIfT rfl ?_
      refine kSeq ?_
      refine kRegion rfl ?_
      refine lV (yAssign rfl) rfl rfl ?_
      refine lNil ?_
      refine kThen ?_
      refine kRet ?_
      refine kInR ?_
      refine kThenR ?_
      refine kThenR ?_
      refine kInR ?_
      refine kThenR ?_
      refine fRet rfl (.t rfl .n) (endRet ?_)
      have h := notT h17
      rw [decide_eq_false fun hs : ScrewOk m => h (hs.e _ (getD_mem (i := i) (by omega) (0, 0)))]
      rfl
    · refine kIfF rfl ?_
      refine kSkip ?_
      refine kInN ?_
      refine kThen ?_
      refine kRegion rfl ?_
      refine lV (yMove rfl) rfl rfl ?_
      refine lV (yAdd rfl rfl (by omega)) rfl rfl ?_
      refine lV (yAssign rfl) rfl rfl ?_
      refine lNil ?_
      exact kRoundX (i + 1) (⟨by omega, fun j hj => by rcases Nat.lt_or_ge j i with h | h; (· exact hok j h); (obtain rfl : j = i := (by omega)); exact notF h17⟩) (by omega) rfl (.c rfl .n) (.c rfl (.c rfl .n)) (.c 0 rfl .n)
  · refine kIfF rfl ?_
    refine kExit ?_
    refine kThenX ?_
    refine kThenX ?_
    refine kInX ?_
    refine kThen ?_
    refine kSeq ?_
    refine kRegion rfl ?_
    refine lV (yFieldAddr rfl F26_0) rfl rfl ?_
    refine lV (yLoad1 rfl O22 (cOwn 0 rfl rfl)) rfl rfl ?_
    refine lV (yLen rfl S22) rfl rfl ?_
    refine lV (yCall rfl (.c rfl (.c rfl (.c rfl .n))) C96 (fun w hw => rin_any _ _ _ w)) rfl rfl ?_
    refine lV (yMove rfl) rfl rfl ?_
    refine splitB (t := 22) rfl (fun h22 => ?_) (fun h22 => ?_)
    · refine lGY rfl rfl rfl (oV (yFieldAddr rfl F26_1) rfl ?_)
      refine lGY rfl rfl rfl (oV (yLoadA (vs := [_, _]) rfl A24 (cOwn 0 rfl rfl)) rfl ?_)
      refine lGY rfl rfl rfl (oV (yCall rfl (.c rfl (.c rfl (.c rfl .n))) C95 (fun w hw => rspan_any _ _ _ _ w)) rfl ?_)
      refine lV (yPickT rfl rfl) rfl rfl ?_
      refine lV (yAssign rfl) rfl rfl ?_
      refine lNil ?_
      refine kThen ?_
      refine kRet ?_
      refine fRet rfl (.t rfl .n) (endRet ?_)
      have hall : ∀ x ∈ m.errs, spanOk (-100) 100 x := fun x hx => by
        obtain ⟨j, hj, rfl⟩ := List.mem_iff_getElem.1 hx
        have := hok j (by omega)
        rwa [← List.getElem_eq_getD (h := hj)] at this
      simp only [packV]
      congr 1
      by_cases hs : ScrewOk m
      · rw [decide_eq_true hs]
        have h1 := hs.n
        have h2 := hs.y
        unfold spanOk at h2
        first | exact decide_eq_true h2 | (have h3 := of_decide_eq_false h22; omega)
      · refine Eq.trans ?_ (decide_eq_false hs).symm
        first | rfl | (have h3 := of_decide_eq_true h22; exact decide_eq_false fun hy => hs ⟨by omega, hall, hy⟩)
    · refine lGN rfl rfl rfl rfl rfl ?_
      refine lGN rfl rfl rfl rfl rfl ?_
      refine lGN rfl rfl rfl rfl rfl ?_
      refine lV (yPickF rfl rfl) rfl rfl ?_
      refine lV (yAssign rfl) rfl rfl ?_
      refine lNil ?_
      refine kThen ?_
      refine kRet ?_
      refine fRet rfl (.t rfl .n) (endRet ?_)
      have hall : ∀ x ∈ m.errs, spanOk (-100) 100 x := fun x hx => by
        obtain ⟨j, hj, rfl⟩ := List.mem_iff_getElem.1 hx
        have := hok j (by omega)
        rwa [← List.getElem_eq_getD (h := hj)] at this
      simp only [packV]
      congr 1
      by_cases hs : ScrewOk m
      · rw [decide_eq_true hs]
        have h1 := hs.n
        have h2 := hs.y
        unfold spanOk at h2
        first | exact decide_eq_true h2 | (have h3 := of_decide_eq_false h22; omega)
      · refine Eq.trans ?_ (decide_eq_false hs).symm
        first | rfl | (have h3 := of_decide_eq_true h22; exact decide_eq_false fun hy => hs ⟨by omega, hall, hy⟩)
set_option maxRecDepth 100000 in
theorem rreading_any (y : Loc) (m : Meas) (n : Int) (w : World) (hn : m.errs.length ≤ 1000000) : Calls Try.prog 69 [.agg (screwC y m).toArray, i64 n].toArray w (Ret w (.bool (decide (readOk m n)))) := by
  refine fEnter Try.func69 rfl Try.ntmps69 rfl ?_
  refine kSeq ?_
  refine kRegion rfl ?_
  refine lE rfl ?_
  refine eBoxA rfl fun n2 => ?_
  refine lV (yAssign rfl) rfl rfl ?_
  refine lNil ?_
  refine kThen ?_
  refine kSeq ?_
  refine kRegion rfl ?_
  refine lV (yMove rfl) rfl rfl ?_
  refine lV (yFieldAddr rfl F26_0) rfl rfl ?_
  refine lV (yLoad1 rfl O22 (cOwn 0 rfl rfl)) rfl rfl ?_
  refine lV (yLen rfl S22) rfl rfl ?_
  refine lV (yMul rfl rfl (by omega)) rfl rfl ?_
  refine lV (ySub rfl rfl (by omega)) rfl rfl ?_
  refine lV (yCall rfl (.c rfl (.c rfl (.c rfl .n))) C96 (fun w hw => rin_any _ _ _ w)) rfl rfl ?_
  refine lV (yAssign rfl) rfl rfl ?_
  refine lNil ?_
  refine kThen ?_
  refine kRet ?_
  refine fRet rfl (.t rfl .n) (endRet ?_)
  simp only [packV]
  congr 1
  refine decide_eq_decide.2 ?_
  unfold readOk
  rw [Int.mul_comm]
set_option maxRecDepth 100000 in
theorem rtravels_any (y : Loc) (m : Meas) (n : Int) (w : World) (hm : InM w y m) (hs : ScrewOk m) (hn : readOk m n) :
    Calls Try.prog 108 [.agg (screwC y m).toArray, i64 n].toArray w (Ret w (.agg [i64 (travelP m n).1, i64 (travelP m n).2].toArray)) := by
  have hk := readOk_lt hn
  have hn0 : 0 ≤ n ∧ n ≤ 100000 := by unfold readOk at hn; have := hs.n; omega
  have he := hs.e _ (getD_mem hk.1 (0, 0))
  have hy := hs.y
  unfold spanOk at he hy
  refine fEnter Try.func108 rfl Try.ntmps108 rfl ?_
  refine kSeq ?_
  refine kRegion rfl ?_
  refine lE rfl ?_
  refine eBoxA rfl fun n2 => ?_
  refine lE rfl ?_
  refine eAlloc Z24 fun n4 => ?_
  refine lNil ?_
  refine kThen ?_
  refine kSeq ?_
  refine kRegion rfl ?_
  refine lV (yFieldAddr rfl F26_0) rfl rfl ?_
  refine lV (yLoad1 rfl O22 (cOwn 1 rfl rfl)) rfl rfl ?_
  refine lV (yMove rfl) rfl rfl ?_
  refine lV (yQuo rfl rfl (by omega) (by omega) (by omega)) rfl rfl ?_
  refine same (t := 9) (u := i64 ((n / 1000).toNat : Nat)) rfl (by rw [← hk.2]) ?_
  refine lV (yIndexS  rfl rfl S22 (hm.e.r) (hk.1)) rfl rfl ?_
  refine lV (yLoadA (vs := [_, _]) rfl A24 (cSl0 (hm.e.r) (hk.1) rfl)) rfl rfl ?_
  refine lE rfl ?_
  refine eAlloc Z24 fun n5 => ?_
  refine lE rfl ?_
  refine eStoreL 0 rfl rfl rfl rfl K24 rfl (rfl) ?_
  refine lNil ?_
  refine kThen ?_
  refine kSeq ?_
  refine kRegion rfl ?_
  refine lV (yMove rfl) rfl rfl ?_
  refine lV (yFieldAddr rfl F24_0) rfl rfl ?_
  refine lV (yLoad1 rfl O3 (cOwn 0 rfl rfl)) rfl rfl ?_
  refine lV (yAdd rfl rfl (by omega)) rfl rfl ?_
  refine lV (yFieldAddr rfl F26_1) rfl rfl ?_
  refine lV (yFieldAddr rfl F24_0) rfl rfl ?_
  refine lV (yLoad1 rfl O3 (cOwn 2 rfl rfl)) rfl rfl ?_
  refine lV (yAdd rfl rfl (by omega)) rfl rfl ?_
  refine lV (yMove rfl) rfl rfl ?_
  refine lV (yFieldAddr rfl F24_1) rfl rfl ?_
  refine lV (yLoad1 rfl O3 (cOwn 0 rfl rfl)) rfl rfl ?_
  refine lV (yAdd rfl rfl (by omega)) rfl rfl ?_
  refine lV (yFieldAddr rfl F26_1) rfl rfl ?_
  refine lV (yFieldAddr rfl F24_1) rfl rfl ?_
  refine lV (yLoad1 rfl O3 (cOwn 2 rfl rfl)) rfl rfl ?_
  refine lV (yAdd rfl rfl (by omega)) rfl rfl ?_
  refine lV (yBuild (.c rfl (.c rfl .n)) (fun w => B24_0_1 w)) rfl rfl ?_
  refine lE rfl ?_
  refine eStoreL 1 rfl rfl rfl rfl K24 rfl (rfl) ?_
  refine lNil ?_
  refine kThen ?_
  refine kRet ?_
  refine fRet rfl (.cA (us := [_, _]) rfl A24 (cOwn 1 rfl rfl) .n) (endRet ?_)
  rfl
set_option maxRecDepth 100000 in
theorem rtravel_any (y : Loc) (m : Meas) (n : Int) (w : World) (hm : InM w y m) (hn : m.errs.length ≤ 1000000) : Calls Try.prog 88 [.agg (screwC y m).toArray, i64 n].toArray w (Ret w (outC (travelE m n))) := by
  refine fEnter Try.func88 rfl Try.ntmps88 rfl ?_
  refine kSeq ?_
  refine kRegion rfl ?_
  refine lE rfl ?_
  refine eBoxA rfl fun n2 => ?_
  refine lE rfl ?_
  refine eAlloc Z24 fun n4 => ?_
  refine lV (yAssign rfl) rfl rfl ?_
  refine lNil ?_
  refine kThen ?_
  refine kSeq ?_
  refine kSeq ?_
  refine kRegion rfl ?_
  refine lV (yLoadA (vs := [_, _, _]) rfl A26 (cOwn 1 rfl rfl)) rfl rfl ?_
  refine lV (yCall rfl (.c rfl .n) C68 (fun w hw => rscrew_any y m w (hm.eff hw).e hn)) rfl rfl ?_
  refine lV (yNot rfl) rfl rfl ?_
  refine lNil ?_
  refine kThen ?_
  refine splitB (t := 8) rfl (fun h8 => ?_) (fun h8 => ?_)
  · refine kIfT rfl ?_
    refine kSeq ?_
    refine kRegion rfl ?_
    refine lV (yBuild .n (fun w => B24_ w)) rfl rfl ?_
    refine lE rfl ?_
    refine eStoreL 0 rfl rfl rfl rfl K24 rfl (rfl) ?_
    refine lV (yAssign rfl) rfl rfl ?_
    refine lNil ?_
    refine kThen ?_
    refine kRet ?_
    refine kThenR ?_
    refine fRet rfl (.cA (us := [_, _]) rfl A24 (cOwn 0 rfl rfl) (.t rfl .n)) (endRet ?_)
    have h := notT h8
    simp only [packV, travelE, if_pos h]
  · refine kIfF rfl ?_
    refine kSkip ?_
    refine kThen ?_
    refine kSeq ?_
    refine kSeq ?_
    refine kRegion rfl ?_
    refine lV (yLoadA (vs := [_, _, _]) rfl A26 (cOwn 1 rfl rfl)) rfl rfl ?_
    refine lV (yMove rfl) rfl rfl ?_
    refine lV (yCall rfl (.c rfl (.c rfl .n)) C69 (fun w hw => rreading_any y m n w hn)) rfl rfl ?_
    refine lV (yNot rfl) rfl rfl ?_
    refine lNil ?_
    refine kThen ?_
    refine splitB (t := 13) rfl (fun h13 => ?_) (fun h13 => ?_)
    · refine kIfT rfl ?_
      refine kSeq ?_
      refine kRegion rfl ?_
      refine lV (yBuild .n (fun w => B24_ w)) rfl rfl ?_
      refine lE rfl ?_
      refine eStoreL 0 rfl rfl rfl rfl K24 rfl (rfl) ?_
      refine lV (yAssign rfl) rfl rfl ?_
      refine lNil ?_
      refine kThen ?_
      refine kRet ?_
      refine kThenR ?_
      refine fRet rfl (.cA (us := [_, _]) rfl A24 (cOwn 0 rfl rfl) (.t rfl .n)) (endRet ?_)
      have h := notF h8
      have h' := notT h13
      simp only [packV, travelE, if_neg (not_not_intro h), if_pos h']
    · refine kIfF rfl ?_
      refine kSkip ?_
      refine kThen ?_
      refine kSeq ?_
      refine kRegion rfl ?_
      refine lV (yLoadA (vs := [_, _, _]) rfl A26 (cOwn 1 rfl rfl)) rfl rfl ?_
      refine lV (yMove rfl) rfl rfl ?_
      refine lV (yCall rfl (.c rfl (.c rfl .n)) C108 (fun w hw => rtravels_any y m n w (hm.eff hw) (notF h8) (notF h13))) rfl rfl ?_
      refine lE rfl ?_
      refine eStoreL 0 rfl rfl rfl rfl K24 rfl (rfl) ?_
      refine lV (yAssign rfl) rfl rfl ?_
      refine lNil ?_
      refine kThen ?_
      refine kRet ?_
      refine fRet rfl (.cA (us := [_, _]) rfl A24 (cOwn 0 rfl rfl) (.t rfl .n)) (endRet ?_)
      have h := notF h8
      have h' := notF h13
      simp only [packV, travelE, if_neg (not_not_intro h), if_neg (not_not_intro h')]
end Go.Proofs.Ytiaaidcdoenloaa
