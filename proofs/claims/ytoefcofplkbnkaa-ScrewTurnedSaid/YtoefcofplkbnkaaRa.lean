/-
  Walks: the document's functions: what is valid, travels, what settings tell, sums.
-/
import Derived.Test.YtoefcofplkbnkaaLe
namespace Go.Proofs.Ytoefcofplkbnkaa
open ZW

set_option maxRecDepth 100000 in
theorem rin_any (n a b : Int) (w : World) : Calls Try.prog 60 [i64 n, i64 a, i64 b].toArray w (Ret w (.bool (decide (a ≤ n ∧ n ≤ b)))) := by
  refine fEnter Try.func60 rfl Try.ntmps60 rfl ?_
  refine kSeq ?_
  refine kRegion rfl ?_
  refine lV (yAssign rfl) rfl rfl ?_
  refine lNil ?_
  refine kThen ?_
  refine kSeq ?_
  refine kRegion rfl ?_
  refine lV (yMove rfl) rfl rfl ?_
  refine lV (yMove rfl) rfl rfl ?_
  refine lV (yLeq rfl rfl) rfl rfl ?_
  refine lV (yMove rfl) rfl rfl ?_
  refine split (t := 10) rfl (fun h10 => ?_) (fun h10 => ?_)
  · refine lGY rfl rfl rfl (oV (yMove rfl) rfl ?_)
    refine lGY rfl rfl rfl (oV (yMove rfl) rfl ?_)
    refine lGY rfl rfl rfl (oV (yLeq rfl rfl) rfl ?_)
    refine lV (yPickT rfl rfl) rfl rfl ?_
    refine lV (yAssign rfl) rfl rfl ?_
    refine lNil ?_
    refine kThen ?_
    refine kRet ?_
    refine fRet rfl (.t rfl .n) (endRet ?_)
    simp [packV, *]
  · refine lGN rfl rfl rfl rfl rfl ?_
    refine lGN rfl rfl rfl rfl rfl ?_
    refine lGN rfl rfl rfl rfl rfl ?_
    refine lV (yPickF rfl rfl) rfl rfl ?_
    refine lV (yAssign rfl) rfl rfl ?_
    refine lNil ?_
    refine kThen ?_
    refine kRet ?_
    refine fRet rfl (.t rfl .n) (endRet ?_)
    simp [packV, *]
set_option maxRecDepth 100000 in
theorem rspan_any (lo hi a b : Int) (w : World) : Calls Try.prog 72 [.agg [i64 lo, i64 hi].toArray, i64 a, i64 b].toArray w (Ret w (.bool (decide (a ≤ lo ∧ lo ≤ hi ∧ hi ≤ b)))) := by
  refine fEnter Try.func72 rfl Try.ntmps72 rfl ?_
  refine kSeq ?_
  refine kRegion rfl ?_
  refine lE rfl ?_
  refine eBoxA rfl fun n3 => ?_
  refine lV (yAssign rfl) rfl rfl ?_
  refine lNil ?_
  refine kThen ?_
  refine kSeq ?_
  refine kRegion rfl ?_
  refine lV (yMove rfl) rfl rfl ?_
  refine lV (yFieldAddr rfl F24_0) rfl rfl ?_
  refine lV (yLoad1 rfl O3 (cOwn 0 rfl rfl)) rfl rfl ?_
  refine lV (yLeq rfl rfl) rfl rfl ?_
  refine lV (yMove rfl) rfl rfl ?_
  refine split (t := 11) rfl (fun h11 => ?_) (fun h11 => ?_)
  · refine lGY rfl rfl rfl (oV (yFieldAddr rfl F24_0) rfl ?_)
    refine lGY rfl rfl rfl (oV (yLoad1 rfl O3 (cOwn 0 rfl rfl)) rfl ?_)
    refine lGY rfl rfl rfl (oV (yFieldAddr rfl F24_1) rfl ?_)
    refine lGY rfl rfl rfl (oV (yLoad1 rfl O3 (cOwn 0 rfl rfl)) rfl ?_)
    refine lGY rfl rfl rfl (oV (yLeq rfl rfl) rfl ?_)
    refine lV (yPickT rfl rfl) rfl rfl ?_
    refine lV (yMove rfl) rfl rfl ?_
    refine split (t := 18) rfl (fun h18 => ?_) (fun h18 => ?_)
    · refine lGY rfl rfl rfl (oV (yFieldAddr rfl F24_1) rfl ?_)
      refine lGY rfl rfl rfl (oV (yLoad1 rfl O3 (cOwn 0 rfl rfl)) rfl ?_)
      refine lGY rfl rfl rfl (oV (yMove rfl) rfl ?_)
      refine lGY rfl rfl rfl (oV (yLeq rfl rfl) rfl ?_)
      refine lV (yPickT rfl rfl) rfl rfl ?_
      refine lV (yAssign rfl) rfl rfl ?_
      refine lNil ?_
      refine kThen ?_
      refine kRet ?_
      refine fRet rfl (.t rfl .n) (endRet ?_)
      simp [packV, *]
    · refine lGN rfl rfl rfl rfl rfl ?_
      refine lGN rfl rfl rfl rfl rfl ?_
      refine lGN rfl rfl rfl rfl rfl ?_
      refine lGN rfl rfl rfl rfl rfl ?_
      refine lV (yPickF rfl rfl) rfl rfl ?_
      refine lV (yAssign rfl) rfl rfl ?_
      refine lNil ?_
      refine kThen ?_
      refine kRet ?_
      refine fRet rfl (.t rfl .n) (endRet ?_)
      simp [packV, *]
  · refine lGN rfl rfl rfl rfl rfl ?_
    refine lGN rfl rfl rfl rfl rfl ?_
    refine lGN rfl rfl rfl rfl rfl ?_
    refine lGN rfl rfl rfl rfl rfl ?_
    refine lGN rfl rfl rfl rfl rfl ?_
    refine lV (yPickF rfl rfl) rfl rfl ?_
    refine lV (yMove rfl) rfl rfl ?_
    refine lGN rfl rfl rfl rfl rfl ?_
    refine lGN rfl rfl rfl rfl rfl ?_
    refine lGN rfl rfl rfl rfl rfl ?_
    refine lGN rfl rfl rfl rfl rfl ?_
    refine lV (yPickF rfl rfl) rfl rfl ?_
    refine lV (yAssign rfl) rfl rfl ?_
    refine lNil ?_
    refine kThen ?_
    refine kRet ?_
    refine fRet rfl (.t rfl .n) (endRet ?_)
    simp [packV, *]

set_option maxRecDepth 100000 in
theorem rscrew_any (y : Loc) (m : Meas) (w : World) (hm : SlE w y.ea m.errs.length 2 (errC m.errs)) (hn : m.errs.length ≤ 1000000) : Calls Try.prog 50 [.agg (screwC y m).toArray].toArray w (Ret w (.bool (decide (ScrewOk m)))) := by
  refine fEnter Try.func50 rfl Try.ntmps50 rfl ?_
  refine kSeq ?_
  refine kRegion rfl ?_
  refine lE rfl ?_
  refine eBoxA rfl fun n1 => ?_
  refine lV (yAssign rfl) rfl rfl ?_
  refine lNil ?_
  refine kThen ?_
  refine kSeq ?_
  refine kSeq ?_
  refine kRegion rfl ?_
  refine lV (yAssign rfl) rfl rfl ?_
  refine lNil ?_
  refine kThen ?_
  refine kBlock ?_
  refine kLoopX (ι := Nat) (fun i => i ≤ m.errs.length ∧ ∀ j, j < i → spanOk (-100) 100 (m.errs.getD j (0, 0))) (fun i => [(3, i64 (i : Nat))]) [(0, _), (1, _)] (fun i => []) (fun i => []) [(n1, _)] (fun i => m.errs.length - i) 0 (⟨Nat.zero_le _, fun j hj => absurd hj (by omega)⟩) rfl (.c rfl .n) (.c rfl (.c rfl .n)) (.c 0 rfl .n) ?_
  rintro i ⟨hi, hok⟩
  refine kSeq ?_
  refine kSeq ?_
  refine kRegion rfl ?_
  refine lV (yMove rfl) rfl rfl ?_
  refine lV (yFieldAddr rfl F26_0) rfl rfl ?_
  refine lV (yLoad1 rfl O22 (cOwn 0 rfl rfl)) rfl rfl ?_
  refine lV (yLen rfl S22) rfl rfl ?_
  refine lV (yLss rfl rfl) rfl rfl ?_
  refine lNil ?_
  refine kThen ?_
  refine split (t := 8) rfl (fun h8 => ?_) (fun h8 => ?_)
  · refine kIfT rfl ?_
    refine kSkip ?_
    refine kThen ?_
    refine kSeq ?_
    refine kBlock ?_
    refine kSeq ?_
    refine kRegion rfl ?_
    refine lV (yFieldAddr rfl F26_0) rfl rfl ?_
    refine lV (yLoad1 rfl O22 (cOwn 0 rfl rfl)) rfl rfl ?_
    refine lV (yMove rfl) rfl rfl ?_
    refine lV (yIndexS  rfl rfl S22 (hm.r) ((by omega))) rfl rfl ?_
    refine lV (yLoadA (vs := [_, _]) rfl A24 (cSl0 (hm.r) ((by omega)) rfl)) rfl rfl ?_
    refine lV (yCall rfl (.c rfl (.c rfl (.c rfl .n))) C72 (fun w hw => rspan_any _ _ _ _ w)) rfl rfl ?_
    refine lV (yNot rfl) rfl rfl ?_
    refine lNil ?_
    refine kThen ?_
    refine splitB (t := 17) rfl (fun h17 => ?_) (fun h17 => ?_)
    · refine kIfT rfl ?_
      refine kSeq ?_
      refine kRegion rfl ?_
      refine lV (yAssign rfl) rfl rfl ?_
      refine lNil ?_
      refine kThen ?_
      refine kRet ?_
      refine kInR ?_
      refine kThenR ?_
      refine kThenR ?_
      refine kInR ?_
      refine kThenR ?_
      refine fRet rfl (.t rfl .n) (endRet ?_)
      have h := notT h17
      rw [decide_eq_false fun hs : ScrewOk m => h (hs.e _ (getD_mem (i := i) (by omega) (0, 0)))]
      rfl
    · refine kIfF rfl ?_
      refine kSkip ?_
      refine kInN ?_
      refine kThen ?_
      refine kRegion rfl ?_
      refine lV (yMove rfl) rfl rfl ?_
      refine lV (yAdd rfl rfl (by omega)) rfl rfl ?_
      refine lV (yAssign rfl) rfl rfl ?_
      refine lNil ?_
      exact kRoundX (i + 1) (⟨by omega, fun j hj => by rcases Nat.lt_or_ge j i with h | h; (· exact hok j h); (obtain rfl : j = i := (by omega)); exact notF h17⟩) (by omega) rfl (.c rfl .n) (.c rfl (.c rfl .n)) (.c 0 rfl .n)
  · refine kIfF rfl ?_
    refine kExit ?_
    refine kThenX ?_
    refine kThenX ?_
    refine kInX ?_
    refine kThen ?_
    refine kSeq ?_
    refine kRegion rfl ?_
    refine lV (yFieldAddr rfl F26_0) rfl rfl ?_
    refine lV (yLoad1 rfl O22 (cOwn 0 rfl rfl)) rfl rfl ?_
    refine lV (yLen rfl S22) rfl rfl ?_
    refine lV (yCall rfl (.c rfl (.c rfl (.c rfl .n))) C60 (fun w hw => rin_any _ _ _ w)) rfl rfl ?_
    refine lV (yMove rfl) rfl rfl ?_
    refine splitB (t := 22) rfl (fun h22 => ?_) (fun h22 => ?_)
    · refine lGY rfl rfl rfl (oV (yFieldAddr rfl F26_1) rfl ?_)
      refine lGY rfl rfl rfl (oV (yLoadA (vs := [_, _]) rfl A24 (cOwn 0 rfl rfl)) rfl ?_)
      refine lGY rfl rfl rfl (oV (yCall rfl (.c rfl (.c rfl (.c rfl .n))) C72 (fun w hw => rspan_any _ _ _ _ w)) rfl ?_)
      refine lV (yPickT rfl rfl) rfl rfl ?_
      refine lV (yAssign rfl) rfl rfl ?_
      refine lNil ?_
      refine kThen ?_
      refine kRet ?_
      refine fRet rfl (.t rfl .n) (endRet ?_)
      have hall : ∀ x ∈ m.errs, spanOk (-100) 100 x := fun x hx => by
        obtain ⟨j, hj, rfl⟩ := List.mem_iff_getElem.1 hx
        have := hok j (by omega)
        rwa [← List.getElem_eq_getD (h := hj)] at this
      simp only [packV]
      congr 1
      by_cases hs : ScrewOk m
      · rw [decide_eq_true hs]
        have h1 := hs.n
        have h2 := hs.y
        unfold spanOk at h2
        first | exact decide_eq_true h2 | (have h3 := of_decide_eq_false h22; omega)
      · refine Eq.trans ?_ (decide_eq_false hs).symm
        first | rfl | (have h3 := of_decide_eq_true h22; exact decide_eq_false fun hy => hs ⟨by omega, hall, hy⟩)
    · refine lGN rfl rfl rfl rfl rfl ?_
      refine lGN rfl rfl rfl rfl rfl ?_
      refine lGN rfl rfl rfl rfl rfl ?_
      refine lV (yPickF rfl rfl) rfl rfl ?_
      refine lV (yAssign rfl) rfl rfl ?_
      refine lNil ?_
      refine kThen ?_
      refine kRet ?_
      refine fRet rfl (.t rfl .n) (endRet ?_)
      have hall : ∀ x ∈ m.errs, spanOk (-100) 100 x := fun x hx => by
        obtain ⟨j, hj, rfl⟩ := List.mem_iff_getElem.1 hx
        have := hok j (by omega)
        rwa [← List.getElem_eq_getD (h := hj)] at this
      simp only [packV]
      congr 1
      by_cases hs : ScrewOk m
      · rw [decide_eq_true hs]
        have h1 := hs.n
        have h2 := hs.y
        unfold spanOk at h2
        first | exact decide_eq_true h2 | (have h3 := of_decide_eq_false h22; omega)
      · refine Eq.trans ?_ (decide_eq_false hs).symm
        first | rfl | (have h3 := of_decide_eq_true h22; exact decide_eq_false fun hy => hs ⟨by omega, hall, hy⟩)
set_option maxRecDepth 100000 in
theorem rreading_any (y : Loc) (m : Meas) (n : Int) (w : World) (hn : m.errs.length ≤ 1000000) : Calls Try.prog 51 [.agg (screwC y m).toArray, i64 n].toArray w (Ret w (.bool (decide (readOk m n)))) := by
  refine fEnter Try.func51 rfl Try.ntmps51 rfl ?_
  refine kSeq ?_
  refine kRegion rfl ?_
  refine lE rfl ?_
  refine eBoxA rfl fun n2 => ?_
  refine lV (yAssign rfl) rfl rfl ?_
  refine lNil ?_
  refine kThen ?_
  refine kSeq ?_
  refine kRegion rfl ?_
  refine lV (yMove rfl) rfl rfl ?_
  refine lV (yFieldAddr rfl F26_0) rfl rfl ?_
  refine lV (yLoad1 rfl O22 (cOwn 0 rfl rfl)) rfl rfl ?_
  refine lV (yLen rfl S22) rfl rfl ?_
  refine lV (yMul rfl rfl (by omega)) rfl rfl ?_
  refine lV (ySub rfl rfl (by omega)) rfl rfl ?_
  refine lV (yCall rfl (.c rfl (.c rfl (.c rfl .n))) C60 (fun w hw => rin_any _ _ _ w)) rfl rfl ?_
  refine lV (yAssign rfl) rfl rfl ?_
  refine lNil ?_
  refine kThen ?_
  refine kRet ?_
  refine fRet rfl (.t rfl .n) (endRet ?_)
  simp only [packV]
  congr 1
  refine decide_eq_decide.2 ?_
  unfold readOk
  rw [Int.mul_comm]
set_option maxRecDepth 100000 in
theorem rtravels_any (y : Loc) (m : Meas) (n : Int) (w : World) (hm : InM w y m) (hs : ScrewOk m) (hn : readOk m n) :
    Calls Try.prog 52 [.agg (screwC y m).toArray, i64 n].toArray w (Ret w (.agg [i64 (travelP m n).1, i64 (travelP m n).2].toArray)) := by
  have hk := readOk_lt hn
  have hn0 : 0 ≤ n ∧ n ≤ 100000 := by unfold readOk at hn; have := hs.n; omega
  have he := hs.e _ (getD_mem hk.1 (0, 0))
  have hy := hs.y
  unfold spanOk at he hy
  refine fEnter Try.func52 rfl Try.ntmps52 rfl ?_
  refine kSeq ?_
  refine kRegion rfl ?_
  refine lE rfl ?_
  refine eBoxA rfl fun n2 => ?_
  refine lE rfl ?_
  refine eAlloc Z24 fun n4 => ?_
  refine lNil ?_
  refine kThen ?_
  refine kSeq ?_
  refine kRegion rfl ?_
  refine lV (yFieldAddr rfl F26_0) rfl rfl ?_
  refine lV (yLoad1 rfl O22 (cOwn 1 rfl rfl)) rfl rfl ?_
  refine lV (yMove rfl) rfl rfl ?_
  refine lV (yQuo rfl rfl (by omega) (by omega) (by omega)) rfl rfl ?_
  refine same (t := 9) (u := i64 ((n / 1000).toNat : Nat)) rfl (by rw [← hk.2]) ?_
  refine lV (yIndexS  rfl rfl S22 (hm.e.r) (hk.1)) rfl rfl ?_
  refine lV (yLoadA (vs := [_, _]) rfl A24 (cSl0 (hm.e.r) (hk.1) rfl)) rfl rfl ?_
  refine lE rfl ?_
  refine eAlloc Z24 fun n5 => ?_
  refine lE rfl ?_
  refine eStoreL 0 rfl rfl rfl rfl K24 rfl (rfl) ?_
  refine lNil ?_
  refine kThen ?_
  refine kSeq ?_
  refine kRegion rfl ?_
  refine lV (yMove rfl) rfl rfl ?_
  refine lV (yFieldAddr rfl F24_0) rfl rfl ?_
  refine lV (yLoad1 rfl O3 (cOwn 0 rfl rfl)) rfl rfl ?_
  refine lV (yAdd rfl rfl (by omega)) rfl rfl ?_
  refine lV (yFieldAddr rfl F26_1) rfl rfl ?_
  refine lV (yFieldAddr rfl F24_0) rfl rfl ?_
  refine lV (yLoad1 rfl O3 (cOwn 2 rfl rfl)) rfl rfl ?_
  refine lV (yAdd rfl rfl (by omega)) rfl rfl ?_
  refine lV (yMove rfl) rfl rfl ?_
  refine lV (yFieldAddr rfl F24_1) rfl rfl ?_
  refine lV (yLoad1 rfl O3 (cOwn 0 rfl rfl)) rfl rfl ?_
  refine lV (yAdd rfl rfl (by omega)) rfl rfl ?_
  refine lV (yFieldAddr rfl F26_1) rfl rfl ?_
  refine lV (yFieldAddr rfl F24_1) rfl rfl ?_
  refine lV (yLoad1 rfl O3 (cOwn 2 rfl rfl)) rfl rfl ?_
  refine lV (yAdd rfl rfl (by omega)) rfl rfl ?_
  refine lV (yBuild (.c rfl (.c rfl .n)) (fun w => B24_0_1 w)) rfl rfl ?_
  refine lE rfl ?_
  refine eStoreL 1 rfl rfl rfl rfl K24 rfl (rfl) ?_
  refine lNil ?_
  refine kThen ?_
  refine kRet ?_
  refine fRet rfl (.cA (us := [_, _]) rfl A24 (cOwn 1 rfl rfl) .n) (endRet ?_)
  rfl
set_option maxRecDepth 100000 in
theorem rmeasure_any (y : Loc) (m : Meas) (w : World) (hm : InM w y m) (hn : m.errs.length ≤ 1000000) : Calls Try.prog 28 [.agg (measC y m).toArray].toArray w (Ret w (.bool (decide (MeasOk m)))) := by
  refine fEnter Try.func28 rfl Try.ntmps28 rfl ?_
  refine kSeq ?_
  refine kRegion rfl ?_
  refine lE rfl ?_
  refine eBoxA rfl fun n1 => ?_
  refine lV (yAssign rfl) rfl rfl ?_
  refine lNil ?_
  refine kThen ?_
  refine kSeq ?_
  refine kSeq ?_
  refine kRegion rfl ?_
  refine lV (yFieldAddr rfl F29_0) rfl rfl ?_
  refine lV (yLoadA (vs := [_, _, _]) rfl A26 (cOwn 0 rfl rfl)) rfl rfl ?_
  refine lV (yCall rfl (.c rfl .n) C50 (fun w hw => rscrew_any y m w (hm.eff hw).e hn)) rfl rfl ?_
  refine lV (yNot rfl) rfl rfl ?_
  refine lV (yMove rfl) rfl rfl ?_
  refine splitB (t := 9) rfl (fun h9 => ?_) (fun h9 => ?_)
  · refine lGN rfl rfl rfl rfl rfl ?_
    refine lGN rfl rfl rfl rfl rfl ?_
    refine lGN rfl rfl rfl rfl rfl ?_
    refine lGN rfl rfl rfl rfl rfl ?_
    refine lV (yPickT rfl rfl) rfl rfl ?_
    refine lV (yMove rfl) rfl rfl ?_
    refine lGN rfl rfl rfl rfl rfl ?_
    refine lGN rfl rfl rfl rfl rfl ?_
    refine lGN rfl rfl rfl rfl rfl ?_
    refine lGN rfl rfl rfl rfl rfl ?_
    refine lV (yPickT rfl rfl) rfl rfl ?_
    refine lV (yMove rfl) rfl rfl ?_
    refine lGN rfl rfl rfl rfl rfl ?_
    refine lGN rfl rfl rfl rfl rfl ?_
    refine lGN rfl rfl rfl rfl rfl ?_
    refine lGN rfl rfl rfl rfl rfl ?_
    refine lV (yPickT rfl rfl) rfl rfl ?_
    refine lNil ?_
    refine kThen ?_
    refine kIfT rfl ?_
    refine kSeq ?_
    refine kRegion rfl ?_
    refine lV (yAssign rfl) rfl rfl ?_
    refine lNil ?_
    refine kThen ?_
    refine kRet ?_
    refine kThenR ?_
    refine fRet rfl (.t rfl .n) (endRet ?_)
    rw [decide_eq_false fun hs : MeasOk m => notT h9 hs.s]; rfl
  · refine lGY rfl rfl rfl (oV (yFieldAddr rfl F29_1) rfl ?_)
    refine lGY rfl rfl rfl (oV (yLoad1 rfl O3 (cOwn 0 rfl rfl)) rfl ?_)
    refine lGY rfl rfl rfl (oV (yCall rfl (.c rfl (.c rfl (.c rfl .n))) C60 (fun w hw => rin_any _ _ _ w)) rfl ?_)
    refine lGY rfl rfl rfl (oV (yNot rfl) rfl ?_)
    refine lV (yPickF rfl rfl) rfl rfl ?_
    refine lV (yMove rfl) rfl rfl ?_
    refine splitB (t := 15) rfl (fun h15 => ?_) (fun h15 => ?_)
    · refine lGN rfl rfl rfl rfl rfl ?_
      refine lGN rfl rfl rfl rfl rfl ?_
      refine lGN rfl rfl rfl rfl rfl ?_
      refine lGN rfl rfl rfl rfl rfl ?_
      refine lV (yPickT rfl rfl) rfl rfl ?_
      refine lV (yMove rfl) rfl rfl ?_
      refine lGN rfl rfl rfl rfl rfl ?_
      refine lGN rfl rfl rfl rfl rfl ?_
      refine lGN rfl rfl rfl rfl rfl ?_
      refine lGN rfl rfl rfl rfl rfl ?_
      refine lV (yPickT rfl rfl) rfl rfl ?_
      refine lNil ?_
      refine kThen ?_
      refine kIfT rfl ?_
      refine kSeq ?_
      refine kRegion rfl ?_
      refine lV (yAssign rfl) rfl rfl ?_
      refine lNil ?_
      refine kThen ?_
      refine kRet ?_
      refine kThenR ?_
      refine fRet rfl (.t rfl .n) (endRet ?_)
      rw [decide_eq_false fun hs : MeasOk m => notT h15 hs.i]; rfl
    · refine lGY rfl rfl rfl (oV (yFieldAddr rfl F29_2) rfl ?_)
      refine lGY rfl rfl rfl (oV (yLoadA (vs := [_, _]) rfl A24 (cOwn 0 rfl rfl)) rfl ?_)
      refine lGY rfl rfl rfl (oV (yCall rfl (.c rfl (.c rfl (.c rfl .n))) C72 (fun w hw => rspan_any _ _ _ _ w)) rfl ?_)
      refine lGY rfl rfl rfl (oV (yNot rfl) rfl ?_)
      refine lV (yPickF rfl rfl) rfl rfl ?_
      refine lV (yMove rfl) rfl rfl ?_
      refine splitB (t := 21) rfl (fun h21 => ?_) (fun h21 => ?_)
      · refine lGN rfl rfl rfl rfl rfl ?_
        refine lGN rfl rfl rfl rfl rfl ?_
        refine lGN rfl rfl rfl rfl rfl ?_
        refine lGN rfl rfl rfl rfl rfl ?_
        refine lV (yPickT rfl rfl) rfl rfl ?_
        refine lNil ?_
        refine kThen ?_
        refine kIfT rfl ?_
        refine kSeq ?_
        refine kRegion rfl ?_
        refine lV (yAssign rfl) rfl rfl ?_
        refine lNil ?_
        refine kThen ?_
        refine kRet ?_
        refine kThenR ?_
        refine fRet rfl (.t rfl .n) (endRet ?_)
        rw [decide_eq_false fun hs : MeasOk m => notT h21 hs.u]; rfl
      · refine lGY rfl rfl rfl (oV (yFieldAddr rfl F29_3) rfl ?_)
        refine lGY rfl rfl rfl (oV (yLoad1 rfl O27 (cOwn 0 rfl rfl)) rfl ?_)
        refine lGY rfl rfl rfl (oV (yLen rfl S27) rfl ?_)
        refine lGY rfl rfl rfl (oV (yGtr rfl rfl) rfl ?_)
        refine lV (yPickF rfl rfl) rfl rfl ?_
        refine lNil ?_
        refine kThen ?_
        refine split (t := 26) rfl (fun h26 => ?_) (fun h26 => ?_)
        · refine kIfT rfl ?_
          refine kSeq ?_
          refine kRegion rfl ?_
          refine lV (yAssign rfl) rfl rfl ?_
          refine lNil ?_
          refine kThen ?_
          refine kRet ?_
          refine kThenR ?_
          refine fRet rfl (.t rfl .n) (endRet ?_)
          rw [decide_eq_false fun hs : MeasOk m => absurd h26 (by have := hs.n; omega)]; rfl
        · refine kIfF rfl ?_
          refine kSkip ?_
          refine kThen ?_
          refine kSeq ?_
          refine kSeq ?_
          refine kRegion rfl ?_
          refine lV (yAssign rfl) rfl rfl ?_
          refine lNil ?_
          refine kThen ?_
          refine kBlock ?_
          refine kLoopX (ι := Nat) (fun i => i ≤ m.sets.length ∧ ∀ j, j < i → ((0 ≤ (setAt m j).1 ∧ (setAt m j).1 ≤ m.images - 1) ∧ readOk m (setAt m j).2.1)) (fun i => [(3, i64 (i : Nat))]) [(0, _), (1, _), (5, _), (6, _), (7, _), (8, _), (9, _), (10, _), (11, _), (12, _), (13, _), (14, _), (15, _), (16, _), (17, _), (18, _), (19, _), (20, _), (21, _), (22, _), (23, _), (24, _), (25, _), (26, _)] (fun i => []) (fun i => []) [(n1, _)] (fun i => m.sets.length - i) 0 (⟨Nat.zero_le _, fun j hj => absurd hj (by omega)⟩) rfl (.c rfl .n) (.c rfl (.c rfl (.c rfl (.c rfl (.c rfl (.c rfl (.c rfl (.c rfl (.c rfl (.c rfl (.c rfl (.c rfl (.c rfl (.c rfl (.c rfl (.c rfl (.c rfl (.c rfl (.c rfl (.c rfl (.c rfl (.c rfl (.c rfl (.c rfl .n)))))))))))))))))))))))) (.c 0 rfl .n) ?_
          rintro i ⟨hi, hok⟩
          refine kSeq ?_
          refine kSeq ?_
          refine kRegion rfl ?_
          refine lV (yMove rfl) rfl rfl ?_
          refine lV (yFieldAddr rfl F29_3) rfl rfl ?_
          refine lV (yLoad1 rfl O27 (cOwn 0 rfl rfl)) rfl rfl ?_
          refine lV (yLen rfl S27) rfl rfl ?_
          refine lV (yLss rfl rfl) rfl rfl ?_
          refine lNil ?_
          refine kThen ?_
          refine split (t := 31) rfl (fun h31 => ?_) (fun h31 => ?_)
          · refine kIfT rfl ?_
            refine kSkip ?_
            refine kThen ?_
            refine kSeq ?_
            refine kBlock ?_
            refine kSeq ?_
            refine kRegion rfl ?_
            refine lV (yFieldAddr rfl F29_3) rfl rfl ?_
            refine lV (yLoad1 rfl O27 (cOwn 0 rfl rfl)) rfl rfl ?_
            refine lV (yMove rfl) rfl rfl ?_
            refine lV (yIndexS  rfl rfl S27 (hm.s.r) ((by omega))) rfl rfl ?_
            refine lV (yLoadA (vs := [_, _, _]) rfl A49 (cSl0 (hm.s.r) ((by omega)) rfl)) rfl rfl ?_
            refine lE rfl ?_
            refine eAlloc Z49 fun n4 => ?_
            refine lE rfl ?_
            refine eStoreL 0 rfl rfl rfl rfl K49 rfl (rfl) ?_
            refine lNil ?_
            refine kThen ?_
            refine kSeq ?_
            refine kRegion rfl ?_
            refine lV (yFieldAddr rfl F49_0) rfl rfl ?_
            refine lV (yLoad1 rfl O3 (cOwn 0 rfl rfl)) rfl rfl ?_
            refine lV (yFieldAddr rfl F29_1) rfl rfl ?_
            refine lV (yLoad1 rfl O3 (cOwn 1 rfl rfl)) rfl rfl ?_
            refine lV (ySub rfl rfl (by have := notF h15; omega)) rfl rfl ?_
            refine lV (yCall rfl (.c rfl (.c rfl (.c rfl .n))) C60 (fun w hw => rin_any _ _ _ w)) rfl rfl ?_
            refine lV (yNot rfl) rfl rfl ?_
            refine lV (yMove rfl) rfl rfl ?_
            refine splitB (t := 46) rfl (fun h46 => ?_) (fun h46 => ?_)
            · refine lGN rfl rfl rfl rfl rfl ?_
              refine lGN rfl rfl rfl rfl rfl ?_
              refine lGN rfl rfl rfl rfl rfl ?_
              refine lGN rfl rfl rfl rfl rfl ?_
              refine lGN rfl rfl rfl rfl rfl ?_
              refine lGN rfl rfl rfl rfl rfl ?_
              refine lV (yPickT rfl rfl) rfl rfl ?_
              refine lNil ?_
              refine kThen ?_
              refine kIfT rfl ?_
              refine kSeq ?_
              refine kRegion rfl ?_
              refine lV (yAssign rfl) rfl rfl ?_
              refine lNil ?_
              refine kThen ?_
              refine kRet ?_
              refine kInR ?_
              refine kThenR ?_
              refine kThenR ?_
              refine kInR ?_
              refine kThenR ?_
              refine fRet rfl (.t rfl .n) (endRet ?_)
              rw [decide_eq_false fun hs : MeasOk m => notT h46 (hs.a _ (getD_mem (i := i) (by omega) (0, 0, false))).1]; rfl
            · refine lGY rfl rfl rfl (oV (yFieldAddr rfl F29_0) rfl ?_)
              refine lGY rfl rfl rfl (oV (yLoadA (vs := [_, _, _]) rfl A26 (cOwn 1 rfl rfl)) rfl ?_)
              refine lGY rfl rfl rfl (oV (yFieldAddr rfl F49_1) rfl ?_)
              refine lGY rfl rfl rfl (oV (yLoad1 rfl O3 (cOwn 0 rfl rfl)) rfl ?_)
              refine lGY rfl rfl rfl (oV (yCall rfl (.c rfl (.c rfl .n)) C51 (fun w hw => rreading_any y m _ w hn)) rfl ?_)
              refine lGY rfl rfl rfl (oV (yNot rfl) rfl ?_)
              refine lV (yPickF rfl rfl) rfl rfl ?_
              refine lNil ?_
              refine kThen ?_
              refine splitB (t := 53) rfl (fun h53 => ?_) (fun h53 => ?_)
              · refine kIfT rfl ?_
                refine kSeq ?_
                refine kRegion rfl ?_
                refine lV (yAssign rfl) rfl rfl ?_
                refine lNil ?_
                refine kThen ?_
                refine kRet ?_
                refine kInR ?_
                refine kThenR ?_
                refine kThenR ?_
                refine kInR ?_
                refine kThenR ?_
                refine fRet rfl (.t rfl .n) (endRet ?_)
                rw [decide_eq_false fun hs : MeasOk m => notT h53 (hs.a _ (getD_mem (i := i) (by omega) (0, 0, false))).2]; rfl
              · refine kIfF rfl ?_
                refine kSkip ?_
                refine kInN ?_
                refine kThen ?_
                refine kRegion rfl ?_
                refine lV (yMove rfl) rfl rfl ?_
                refine lV (yAdd rfl rfl (by omega)) rfl rfl ?_
                refine lV (yAssign rfl) rfl rfl ?_
                refine lNil ?_
                exact kRoundX (i + 1) (⟨by omega, fun j hj => by rcases Nat.lt_or_ge j i with h | h; (· exact hok j h); (obtain rfl : j = i := (by omega)); exact ⟨notF h46, notF h53⟩⟩) (by omega) rfl (.c rfl .n) (.c rfl (.c rfl (.c rfl (.c rfl (.c rfl (.c rfl (.c rfl (.c rfl (.c rfl (.c rfl (.c rfl (.c rfl (.c rfl (.c rfl (.c rfl (.c rfl (.c rfl (.c rfl (.c rfl (.c rfl (.c rfl (.c rfl (.c rfl (.c rfl .n)))))))))))))))))))))))) (.c 1 rfl .n)
          · refine kIfF rfl ?_
            refine kExit ?_
            refine kThenX ?_
            refine kThenX ?_
            refine kInX ?_
            refine kThen ?_
            refine kSeq ?_
            refine kRegion rfl ?_
            refine lV (yAssign rfl) rfl rfl ?_
            refine lNil ?_
            refine kThen ?_
            refine kRet ?_
            refine fRet rfl (.t rfl .n) (endRet ?_)
            have hl : m.sets.length ≤ 12 := by omega
            rw [decide_eq_true (⟨notF h9, notF h15, notF h21, hl, fun x hx => by
              obtain ⟨j, hj, rfl⟩ := List.mem_iff_getElem.1 hx
              have := hok j (by omega)
              unfold setAt at this
              rwa [← List.getElem_eq_getD (h := hj)] at this⟩ : MeasOk m)]; rfl

/-! ### What settings tell -/
set_option maxRecDepth 100000 in
theorem power_any (n : Nat) (w : World) (hn : n ≤ 61) : Calls Try.prog 75 [i64 (n : Nat)].toArray w (Ret w (i64 ((2 ^ n : Nat) : Int))) := by
  refine fEnter Try.func75 rfl Try.ntmps75 rfl ?_
  refine kSeq ?_
  refine kRegion rfl ?_
  refine lV (yAssign rfl) rfl rfl ?_
  refine lNil ?_
  refine kThen ?_
  refine kSeq ?_
  refine kRegion rfl ?_
  refine lV (yAssign rfl) rfl rfl ?_
  refine lNil ?_
  refine kThen ?_
  refine kSeq ?_
  refine kSeq ?_
  refine kRegion rfl ?_
  refine lV (yAssign rfl) rfl rfl ?_
  refine lNil ?_
  refine kThen ?_
  refine kBlock ?_
  refine kLoopX (ι := Nat) (fun i => i ≤ n) (fun i => [(3, i64 ((2 ^ i : Nat) : Int)), (4, i64 (i : Nat))]) [(0, _), (2, _)] (fun i => []) (fun i => []) [] (fun i => n - i) 0 (Nat.zero_le _) rfl (.c rfl (.c rfl .n)) (.c rfl (.c rfl .n)) .n ?_
  rintro i hi
  refine kSeq ?_
  refine kSeq ?_
  refine kRegion rfl ?_
  refine lV (yMove rfl) rfl rfl ?_
  refine lV (yMove rfl) rfl rfl ?_
  refine lV (yLss rfl rfl) rfl rfl ?_
  refine lNil ?_
  refine kThen ?_
  refine split (t := 7) rfl (fun h7 => ?_) (fun h7 => ?_)
  · refine kIfT rfl ?_
    refine kSkip ?_
    refine kThen ?_
    refine kSeq ?_
    refine kBlock ?_
    have hp : 2 ^ i ≤ 2 ^ 60 := Nat.pow_le_pow_right (by omega) (by omega)
    have hp0 : (0 : Int) ≤ ((2 ^ i : Nat) : Int) := Int.natCast_nonneg _
    have hp1 : ((2 ^ i : Nat) : Int) ≤ ((2 ^ 60 : Nat) : Int) := Int.ofNat_le.2 hp
    rw [show ((2 ^ 60 : Nat) : Int) = 1152921504606846976 from by decide] at hp1
    refine kRegion rfl ?_
    refine lV (yMove rfl) rfl rfl ?_
    refine lV (yMul rfl rfl (by omega)) rfl rfl ?_
    refine same (t := 11) (u := i64 ((2 ^ (i + 1) : Nat) : Int)) rfl (by rw [Nat.pow_succ, Nat.mul_comm]; rfl) ?_
    refine lV (yAssign rfl) rfl rfl ?_
    refine lNil ?_
    refine kInN ?_
    refine kThen ?_
    refine kRegion rfl ?_
    refine lV (yMove rfl) rfl rfl ?_
    refine lV (yAdd rfl rfl (by omega)) rfl rfl ?_
    refine lV (yAssign rfl) rfl rfl ?_
    refine lNil ?_
    exact kRoundX (i + 1) (by omega) (by omega) rfl (.c rfl (.c rfl .n)) (.c rfl (.c rfl .n)) .n
  · refine kIfF rfl ?_
    refine kExit ?_
    refine kThenX ?_
    refine kThenX ?_
    refine kInX ?_
    refine kThen ?_
    refine kSeq ?_
    refine kRegion rfl ?_
    refine lV (yMove rfl) rfl rfl ?_
    refine lV (yAssign rfl) rfl rfl ?_
    refine lNil ?_
    refine kThen ?_
    refine kRet ?_
    refine fRet rfl (.t rfl .n) (endRet ?_)
    obtain rfl : i = n := by omega
    rfl
set_option maxRecDepth 100000 in
theorem has_any (S i : Nat) (w : World) (hi : i ≤ 61) (hS : S < 2 ^ 62) : Calls Try.prog 92 [i64 (S : Nat), i64 (i : Nat)].toArray w (Ret w (.bool (S.testBit i))) := by
  have hp : 0 < 2 ^ i := Nat.two_pow_pos i
  refine fEnter Try.func92 rfl Try.ntmps92 rfl ?_
  refine kSeq ?_
  refine kRegion rfl ?_
  refine lV (yAssign rfl) rfl rfl ?_
  refine lNil ?_
  refine kThen ?_
  refine kSeq ?_
  refine kRegion rfl ?_
  refine lV (yMove rfl) rfl rfl ?_
  refine lV (yMove rfl) rfl rfl ?_
  refine lV (yCall rfl (.c rfl .n) C75 (fun w hw => power_any i w hi)) rfl rfl ?_
  refine lV (yQuo rfl rfl (by omega) (by omega) (by omega)) rfl rfl ?_
  refine lV (yRem rfl rfl (Int.ediv_nonneg (Int.natCast_nonneg _) (Int.natCast_nonneg _)) (by omega)) rfl rfl ?_
  refine lV (yEql rfl rfl) rfl rfl ?_
  refine lV (yAssign rfl) rfl rfl ?_
  refine lNil ?_
  refine kThen ?_
  refine kRet ?_
  refine fRet rfl (.t rfl .n) (endRet ?_)
  rw [Nat.testBit_eq_decide_div_mod_eq]
  simp only [packV]
  congr 1
  exact decide_eq_decide.2 (by omega)
set_option maxRecDepth 100000 in
theorem told_any (y : Loc) (m : Meas) (S : Nat) (g : Int) (r : Bool) (w : World) (hm : InM w y m) (hM : MeasOk m) (hS : S < 2 ^ 62) :
    Calls Try.prog 78 [.agg (measC y m).toArray, i64 (S : Nat), i64 g, .bool r].toArray w (Ret w (.agg [i64 (toldA m S g r).1, i64 (toldA m S g r).2].toArray)) := by
  have hN := hM.n
  refine fEnter Try.func78 rfl Try.ntmps78 rfl ?_
  refine kSeq ?_
  refine kRegion rfl ?_
  refine lE rfl ?_
  refine eBoxA rfl fun n4 => ?_
  refine lE rfl ?_
  refine eAlloc Z24 fun n8 => ?_
  refine lNil ?_
  refine kThen ?_
  refine kSeq ?_
  refine kRegion rfl ?_
  refine lV (yBuild (.c rfl (.c rfl .n)) (fun w => B24_0_1 w)) rfl rfl ?_
  refine lE rfl ?_
  refine eAlloc Z24 fun n9 => ?_
  refine lE rfl ?_
  refine eStoreL 0 rfl rfl rfl rfl K24 rfl (rfl) ?_
  refine lNil ?_
  refine kThen ?_
  refine kSeq ?_
  refine kSeq ?_
  refine kRegion rfl ?_
  refine lV (yAssign rfl) rfl rfl ?_
  refine lNil ?_
  refine kThen ?_
  refine kBlock ?_
  refine kLoopX (ι := Nat × Int × Int) (fun x => x.1 ≤ m.sets.length ∧ x.2 = toldF m S g r x.1) (fun x => [(10, i64 (x.1 : Nat))]) [(0, _), (1, _), (2, _), (3, _), (4, _), (8, _), (13, _), (9, _)] (fun x => []) (fun x => [(n9, blk [i64 x.2.1, i64 x.2.2] 24)]) [(n8, _), (n4, _)] (fun x => m.sets.length - x.1) (0, -never, never) (⟨Nat.zero_le _, rfl⟩) rfl (.c rfl .n) (.c rfl (.c rfl (.c rfl (.c rfl (.c rfl (.c rfl (.c rfl (.c rfl .n)))))))) (.c 1 rfl (.c 1 rfl (.c 0 rfl .n))) ?_
  rintro ⟨i, o⟩ ⟨hi, ho⟩
  dsimp only at hi ho ⊢
  refine kSeq ?_
  refine kSeq ?_
  refine kRegion rfl ?_
  refine lV (yMove rfl) rfl rfl ?_
  refine lV (yFieldAddr rfl F29_3) rfl rfl ?_
  refine lV (yLoad1 rfl O27 (cOwn 1 rfl rfl)) rfl rfl ?_
  refine lV (yLen rfl S27) rfl rfl ?_
  refine lV (yLss rfl rfl) rfl rfl ?_
  refine lNil ?_
  refine kThen ?_
  refine split (t := 18) rfl (fun h18 => ?_) (fun h18 => ?_)
  · refine kIfT rfl ?_
    refine kSkip ?_
    refine kThen ?_
    refine kSeq ?_
    refine kBlock ?_
    refine kSeq ?_
    refine kRegion rfl ?_
    refine lV (yFieldAddr rfl F29_3) rfl rfl ?_
    refine lV (yLoad1 rfl O27 (cOwn 1 rfl rfl)) rfl rfl ?_
    refine lV (yMove rfl) rfl rfl ?_
    refine lV (yIndexS  rfl rfl S27 (hm.s.r) ((by omega))) rfl rfl ?_
    refine lV (yLoadA (vs := [_, _, _]) rfl A49 (cSl0 (hm.s.r) ((by omega)) rfl)) rfl rfl ?_
    refine lE rfl ?_
    refine eAlloc Z49 fun n11 => ?_
    refine lE rfl ?_
    refine eStoreL 0 rfl rfl rfl rfl K49 rfl (rfl) ?_
    refine lNil ?_
    refine kThen ?_
    refine kSeq ?_
    refine kRegion rfl ?_
    refine lV (yMove rfl) rfl rfl ?_
    refine lV (yMove rfl) rfl rfl ?_
    refine lV (yCall rfl (.c rfl (.c rfl .n)) C92 (fun w hw => has_any S i w (by omega) hS)) rfl rfl ?_
    refine lV (yMove rfl) rfl rfl ?_
    refine splitB (t := 29) rfl (fun h29 => ?_) (fun h29 => ?_)
    · refine lGY rfl rfl rfl (oV (yFieldAddr rfl F49_0) rfl ?_)
      refine lGY rfl rfl rfl (oV (yLoad1 rfl O3 (cOwn 0 rfl rfl)) rfl ?_)
      refine lGY rfl rfl rfl (oV (yMove rfl) rfl ?_)
      refine lGY rfl rfl rfl (oV (yEql rfl rfl) rfl ?_)
      refine lV (yPickT rfl rfl) rfl rfl ?_
      refine lV (yMove rfl) rfl rfl ?_
      refine split (t := 35) rfl (fun h35 => ?_) (fun h35 => ?_)
      · refine lGY rfl rfl rfl (oV (yFieldAddr rfl F49_2) rfl ?_)
        refine lGY rfl rfl rfl (oV (yLoad1 rfl O4 (cOwn 0 rfl rfl)) rfl ?_)
        refine lGY rfl rfl rfl (oV (yMove rfl) rfl ?_)
        refine lGY rfl rfl rfl (oV (yEqBool rfl rfl U4) rfl ?_)
        refine lV (yPickT rfl rfl) rfl rfl ?_
        refine lNil ?_
        refine kThen ?_
        refine split (t := 40) rfl (fun h40 => ?_) (fun h40 => ?_)
        · refine kIfT rfl ?_
          refine kSeq ?_
          refine kRegion rfl ?_
          refine lV (yFieldAddr rfl F29_0) rfl rfl ?_
          refine lV (yLoadA (vs := [_, _, _]) rfl A26 (cOwn 2 rfl rfl)) rfl rfl ?_
          refine lV (yFieldAddr rfl F49_1) rfl rfl ?_
          refine lV (yLoad1 rfl O3 (cOwn 0 rfl rfl)) rfl rfl ?_
          refine lV (yCall rfl (.c rfl (.c rfl .n)) C52 (fun w hw => rtravels_any y m _ w (hm.eff hw) hM.s (hM.a _ (getD_mem (i := i) (by omega) (0, 0, false))).2)) rfl rfl ?_
          refine lE rfl ?_
          refine eAlloc Z24 fun n12 => ?_
          refine lE rfl ?_
          refine eStoreL 0 rfl rfl rfl rfl K24 rfl (rfl) ?_
          refine lNil ?_
          refine kThen ?_
          refine kRegion rfl ?_
          refine lV (yFieldAddr rfl F24_0) rfl rfl ?_
          refine lV (yLoad1 rfl O3 (cOwn 4 rfl rfl)) rfl rfl ?_
          refine lV (yFieldAddr rfl F24_0) rfl rfl ?_
          refine lV (yLoad1 rfl O3 (cOwn 0 rfl rfl)) rfl rfl ?_
          refine lV (yMax rfl rfl) rfl rfl ?_
          refine lV (yFieldAddr rfl F24_1) rfl rfl ?_
          refine lV (yLoad1 rfl O3 (cOwn 4 rfl rfl)) rfl rfl ?_
          refine lV (yFieldAddr rfl F24_1) rfl rfl ?_
          refine lV (yLoad1 rfl O3 (cOwn 0 rfl rfl)) rfl rfl ?_
          refine lV (yMin rfl rfl) rfl rfl ?_
          refine lV (yBuild (.c rfl (.c rfl .n)) (fun w => B24_0_1 w)) rfl rfl ?_
          refine lE rfl ?_
          refine eStoreL 4 rfl rfl rfl rfl K24 rfl (rfl) ?_
          refine lNil ?_
          refine kInN ?_
          refine kThen ?_
          refine kRegion rfl ?_
          refine lV (yMove rfl) rfl rfl ?_
          refine lV (yAdd rfl rfl (by omega)) rfl rfl ?_
          refine lV (yAssign rfl) rfl rfl ?_
          refine lNil ?_
          exact kRoundX (i + 1, max o.1 (travelP m (setAt m i).2.1).1, min o.2 (travelP m (setAt m i).2.1).2) (⟨by dsimp only; omega, by dsimp only; rw [toldF_succ, ← ho]; first | exact (if_pos ⟨h29, h35, h40⟩).symm | exact (if_neg fun h => h40 h.2.2).symm | exact (if_neg fun h => h35 h.2.1).symm | exact (if_neg fun h => absurd h.1 (by rw [h29]; decide)).symm⟩) (by dsimp only; omega) rfl (.c rfl .n) (.c rfl (.c rfl (.c rfl (.c rfl (.c rfl (.c rfl (.c rfl (.c rfl .n)))))))) (.c 2 rfl (.c 2 rfl (.c 2 rfl .n)))
        · refine kIfF rfl ?_
          refine kSkip ?_
          refine kInN ?_
          refine kThen ?_
          refine kRegion rfl ?_
          refine lV (yMove rfl) rfl rfl ?_
          refine lV (yAdd rfl rfl (by omega)) rfl rfl ?_
          refine lV (yAssign rfl) rfl rfl ?_
          refine lNil ?_
          exact kRoundX (i + 1, o) (⟨by dsimp only; omega, by dsimp only; rw [toldF_succ, ← ho]; first | exact (if_pos ⟨h29, h35, h40⟩).symm | exact (if_neg fun h => h40 h.2.2).symm | exact (if_neg fun h => h35 h.2.1).symm | exact (if_neg fun h => absurd h.1 (by rw [h29]; decide)).symm⟩) (by dsimp only; omega) rfl (.c rfl .n) (.c rfl (.c rfl (.c rfl (.c rfl (.c rfl (.c rfl (.c rfl (.c rfl .n)))))))) (.c 1 rfl (.c 1 rfl (.c 1 rfl .n)))
      · refine lGN rfl rfl rfl rfl rfl ?_
        refine lGN rfl rfl rfl rfl rfl ?_
        refine lGN rfl rfl rfl rfl rfl ?_
        refine lGN rfl rfl rfl rfl rfl ?_
        refine lV (yPickF rfl rfl) rfl rfl ?_
        refine lNil ?_
        refine kThen ?_
        refine kIfF rfl ?_
        refine kSkip ?_
        refine kInN ?_
        refine kThen ?_
        refine kRegion rfl ?_
        refine lV (yMove rfl) rfl rfl ?_
        refine lV (yAdd rfl rfl (by omega)) rfl rfl ?_
        refine lV (yAssign rfl) rfl rfl ?_
        refine lNil ?_
        exact kRoundX (i + 1, o) (⟨by dsimp only; omega, by dsimp only; rw [toldF_succ, ← ho]; first | exact (if_pos ⟨h29, h35, h40⟩).symm | exact (if_neg fun h => h40 h.2.2).symm | exact (if_neg fun h => h35 h.2.1).symm | exact (if_neg fun h => absurd h.1 (by rw [h29]; decide)).symm⟩) (by dsimp only; omega) rfl (.c rfl .n) (.c rfl (.c rfl (.c rfl (.c rfl (.c rfl (.c rfl (.c rfl (.c rfl .n)))))))) (.c 1 rfl (.c 1 rfl (.c 1 rfl .n)))
    · refine lGN rfl rfl rfl rfl rfl ?_
      refine lGN rfl rfl rfl rfl rfl ?_
      refine lGN rfl rfl rfl rfl rfl ?_
      refine lGN rfl rfl rfl rfl rfl ?_
      refine lV (yPickF rfl rfl) rfl rfl ?_
      refine lV (yMove rfl) rfl rfl ?_
      refine lGN rfl rfl rfl rfl rfl ?_
      refine lGN rfl rfl rfl rfl rfl ?_
      refine lGN rfl rfl rfl rfl rfl ?_
      refine lGN rfl rfl rfl rfl rfl ?_
      refine lV (yPickF rfl rfl) rfl rfl ?_
      refine lNil ?_
      refine kThen ?_
      refine kIfF rfl ?_
      refine kSkip ?_
      refine kInN ?_
      refine kThen ?_
      refine kRegion rfl ?_
      refine lV (yMove rfl) rfl rfl ?_
      refine lV (yAdd rfl rfl (by omega)) rfl rfl ?_
      refine lV (yAssign rfl) rfl rfl ?_
      refine lNil ?_
      exact kRoundX (i + 1, o) (⟨by dsimp only; omega, by dsimp only; rw [toldF_succ, ← ho]; first | exact (if_pos ⟨h29, h35, h40⟩).symm | exact (if_neg fun h => h40 h.2.2).symm | exact (if_neg fun h => h35 h.2.1).symm | exact (if_neg fun h => absurd h.1 (by rw [h29]; decide)).symm⟩) (by dsimp only; omega) rfl (.c rfl .n) (.c rfl (.c rfl (.c rfl (.c rfl (.c rfl (.c rfl (.c rfl (.c rfl .n)))))))) (.c 1 rfl (.c 1 rfl (.c 1 rfl .n)))
  · refine kIfF rfl ?_
    refine kExit ?_
    refine kThenX ?_
    refine kThenX ?_
    refine kInX ?_
    refine kThen ?_
    refine kSeq ?_
    refine kRegion rfl ?_
    refine lV (yLoadA (vs := [_, _]) rfl A24 (cOwn 2 rfl rfl)) rfl rfl ?_
    refine lE rfl ?_
    refine eStoreL 0 rfl rfl rfl rfl K24 rfl (rfl) ?_
    refine lNil ?_
    refine kThen ?_
    refine kRet ?_
    refine fRet rfl (.cA (us := [_, _]) rfl A24 (cOwn 0 rfl rfl) .n) (endRet ?_)
    obtain rfl : i = m.sets.length := by omega
    rw [show toldA m S g r = o from ho.symm]
    rfl
end Go.Proofs.Ytoefcofplkbnkaa
