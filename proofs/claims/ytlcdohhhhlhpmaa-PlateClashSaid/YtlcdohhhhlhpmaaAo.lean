/-
  Walks: Find.
-/
import Derived.Test.YtlcdohhhhlhpmaaAn
namespace Go.Proofs.Ytlcdohhhhlhpmaa
open ZW

abbrev isSkyB (n : Int) : Bool := decide (-1048576 ≤ n ∧ n ≤ 1048576)
set_option maxRecDepth 100000 in
theorem isSky_any (n : Int) (w : World) : Calls Try.prog 74 [i64 n].toArray w (Ret w (.bool (isSkyB n))) := by
  refine fEnter Try.func74 rfl Try.ntmps74 rfl ?_
  refine kSeq ?_
  refine kRegion rfl ?_
  refine lV (yAssign rfl) rfl rfl ?_
  refine lNil ?_
  refine kThen ?_
  refine kSeq ?_
  refine kRegion rfl ?_
  refine lV (yMove rfl) rfl rfl ?_
  refine lV (yCall rfl (.c rfl (.c rfl (.c rfl .n))) C75 (fun w hw => within_any _ _ _ w)) rfl rfl ?_
  refine lV (yAssign rfl) rfl rfl ?_
  refine lNil ?_
  refine kThen ?_
  refine kRet ?_
  refine fRet rfl (.t rfl .n) (endRet ?_)
  rfl
/-- Where on the plate a place can be, with a corner and a scale. -/
def findC (c : Int × Int) (goal s : Int) : List Int :=
  if goal - c.1 < 0 then [] else if (1000 * max 0 (goal - c.2) + s - 1) / s ≤ min 32768 ((1000 * (goal - c.1 + 1) - 1) / s) then [(1000 * max 0 (goal - c.2) + s - 1) / s, min 32768 ((1000 * (goal - c.1 + 1) - 1) / s)] else []
def findQ (p : Plt) (d : Bool) (goal s : Int) : List Int := findC (cornP p d s (knownP p)) goal s
def findH (p : Plt) (d : Bool) (goal : Int) : Ends := hullE ((scalesP p (knownP p)).flatMap (findQ p d goal))
def findE (p : Plt) (e n : Int) : (Int × Int) × (Int × Int) × Int :=
  if toldE p (isSkyB e && isSkyB n) ≠ 0 then ((0, 0), (0, 0), toldE p (isSkyB e && isSkyB n)) else if (findH p false e).some = true ∧ (findH p true n).some = true then (spanE (findH p false e), spanE (findH p true n), 0) else ((0, 0), (0, 0), 4)
set_option maxRecDepth 100000 in
set_option maxHeartbeats 2000000 in
theorem find_bad (y : Option Addr × Nat) (p : Plt) (e n : Int) (w : World) (hm : InP w y p) (h : toldE p (isSkyB e && isSkyB n) ≠ 0) : Calls Try.prog 24 [.agg (pltC y p).toArray, i64 e, i64 n].toArray w (Ret w (outC2 (findE p e n))) := by
  have he : findE p e n = ((0, 0), (0, 0), toldE p (isSkyB e && isSkyB n)) := by unfold findE; rw [if_pos h]
  rw [he]
  refine fEnter Try.func24 rfl Try.ntmps24 rfl ?_
  refine kSeq ?_
  refine kRegion rfl ?_
  refine lE rfl ?_
  refine eBoxA rfl fun n3 => ?_
  refine lE rfl ?_
  refine eAlloc Z23 fun n6 => ?_
  refine lE rfl ?_
  refine eAlloc Z23 fun n7 => ?_
  refine lE rfl ?_
  refine eAlloc Z29 fun n8 => ?_
  refine lNil ?_
  refine kThen ?_
  refine kSeq ?_
  refine kRegion rfl ?_
  refine lV (yMakeFunc .n (.c rfl .n)) rfl rfl ?_
  refine lE rfl ?_
  refine eDefer rfl .n ?_
  refine lNil ?_
  refine kThen ?_
  refine kSeq ?_
  refine kRegion rfl ?_
  refine lV (yAssign rfl) rfl rfl ?_
  refine lNil ?_
  refine kThen ?_
  refine kSeq ?_
  by_cases hsa : -1048576 ≤ e ∧ e ≤ 1048576
  · rw [show isSkyB e = true from decide_eq_true hsa, Bool.true_and] at h ⊢
    refine kDrawE [(0, none), (3, none), (7, none)] [] [0, 1, 2, 3, 4, 5, 6, 7, 8] 2 hMix (by kernel_rfl) ?_
    refine .run rfl (yLoadA (vs := [_, _, _]) rfl A26 (cOwn 3 rfl rfl)) rfl rfl ?_
    refine .run rfl (yMove rfl) rfl rfl ?_
    refine .run rfl (yMove rfl) rfl rfl ?_
    refine .run rfl (yvIs (c := true) (yCall rfl (.c rfl .n) C74 (fun w hw => isSky_any e w)) (decide_eq_true hsa)) rfl rfl ?_
    refine .run rfl (yMove rfl) rfl rfl ?_
    refine .runG rfl (yMove rfl) rfl rfl rfl rfl ?_
    refine .runG rfl (yMove rfl) rfl rfl rfl rfl ?_
    refine .runG rfl (yCall rfl (.c rfl .n) C74 (fun w hw => isSky_any n w)) rfl rfl rfl rfl ?_
    refine .run rfl (yPickT rfl rfl) rfl rfl ?_
    refine .done ?_
    refine effStep 9 [] (by kernel_rfl) closedSt (hLeft [0, 3, 7] (by kernel_rfl) (.c (fun _ _ hs => hs.ef) (.c (fun _ _ hs => hs.ef) (.c (fun _ _ hs => hs.ef) .n)))) ?_
    refine .c ?_ .n
    refine effLast rfl rfl (by kernel_rfl) ?_
    refine eCallP rfl (.c rfl (.c rfl .n)) C59 (fun w hw => told_bad y p _ w (hm.eff0 hw) h) ?_
    refine kThenP ?_
    refine fPanC 0 DFind C73 rfl rfl (.cA (us := [_, _]) rfl A23 (cOwn 2 rfl rfl) (.cA (us := [_, _]) rfl A23 (cOwn 1 rfl rfl) (.c1 rfl O29 (cOwn 0 rfl rfl) .n))) (endRet ?_)
    simp only [packV]
  · rw [show isSkyB e = false from decide_eq_false hsa, Bool.false_and] at h ⊢
    refine kDrawE [(0, none), (3, none)] [] [0, 1, 2, 3, 4, 5, 6, 7, 8] 2 hMix (by kernel_rfl) ?_
    refine .run rfl (yLoadA (vs := [_, _, _]) rfl A26 (cOwn 3 rfl rfl)) rfl rfl ?_
    refine .run rfl (yMove rfl) rfl rfl ?_
    refine .run rfl (yMove rfl) rfl rfl ?_
    refine .run rfl (yvIs (c := false) (yCall rfl (.c rfl .n) C74 (fun w hw => isSky_any e w)) (decide_eq_false hsa)) rfl rfl ?_
    refine .run rfl (yMove rfl) rfl rfl ?_
    refine .skip rfl rfl rfl rfl rfl rfl ?_
    refine .skip rfl rfl rfl rfl rfl rfl ?_
    refine .skip rfl rfl rfl rfl rfl rfl ?_
    refine .run rfl (yPickF rfl rfl) rfl rfl ?_
    refine .done ?_
    refine effStep 9 [] (by kernel_rfl) closedSt (hLeft [0, 3] (by kernel_rfl) (.c (fun _ _ hs => hs.ef) (.c (fun _ _ hs => hs.ef) .n))) ?_
    refine .c ?_ .n
    refine effLast rfl rfl (by kernel_rfl) ?_
    refine eCallP rfl (.c rfl (.c rfl .n)) C59 (fun w hw => told_bad y p _ w (hm.eff0 hw) h) ?_
    refine kThenP ?_
    refine fPanC 0 DFind C73 rfl rfl (.cA (us := [_, _]) rfl A23 (cOwn 2 rfl rfl) (.cA (us := [_, _]) rfl A23 (cOwn 1 rfl rfl) (.c1 rfl O29 (cOwn 0 rfl rfl) .n))) (endRet ?_)
    simp only [packV]
theorem sc_pos {p : Plt} {set j : Nat} (hp : PltOk p) (hj : j < (filS p set (nSc p)).length) : 1 ≤ (scalesP p set).getD j 0 := by
  have h := scalesP_mem.1 (getD_mem (l := scalesP p set) (i := j) (by rw [scalesP_len]; exact hj) 0)
  have hc := hp.c
  unfold spanOk at hc
  omega
theorem div_bd {a b : Int} (ha : 0 ≤ a) (hb : 1 ≤ b) : 0 ≤ a / b ∧ a / b ≤ a := ⟨Int.ediv_nonneg ha (by omega), Int.ediv_le_self _ ha⟩
set_option maxRecDepth 100000 in
set_option maxHeartbeats 4000000 in
theorem find_ok (y : Option Addr × Nat) (p : Plt) (e n : Int) (w : World) (hm : InP w y p) (h : toldE p (isSkyB e && isSkyB n) = 0) : Calls Try.prog 24 [.agg (pltC y p).toArray, i64 e, i64 n].toArray w (Ret w (outC2 (findE p e n))) := by
  have hp := (truthE_ok (toldE_ok h).1).1
  have hse := (truthE_ok (toldE_ok h).1).2.1
  rw [Bool.and_eq_true] at hse
  have he := of_decide_eq_true hse.1
  have hn := of_decide_eq_true hse.2
  have h' := h
  rw [hse.1, hse.2] at h'
  refine fEnter Try.func24 rfl Try.ntmps24 rfl ?_
  refine kSeq ?_
  refine kRegion rfl ?_
  refine lE rfl ?_
  refine eBoxA rfl fun n3 => ?_
  refine lE rfl ?_
  refine eAlloc Z23 fun n6 => ?_
  refine lE rfl ?_
  refine eAlloc Z23 fun n7 => ?_
  refine lE rfl ?_
  refine eAlloc Z29 fun n8 => ?_
  refine lNil ?_
  refine kThen ?_
  refine kSeq ?_
  refine kRegion rfl ?_
  refine lV (yMakeFunc .n (.c rfl .n)) rfl rfl ?_
  refine lE rfl ?_
  refine eDefer rfl .n ?_
  refine lNil ?_
  refine kThen ?_
  refine kSeq ?_
  refine kRegion rfl ?_
  refine lV (yAssign rfl) rfl rfl ?_
  refine lNil ?_
  refine kThen ?_
  refine kSeq ?_
  refine kDrawE [(0, none), (3, none), (7, none)] [] [0, 1, 2, 3, 4, 5, 6, 7, 8] 2 hMix (by kernel_rfl) ?_
  refine .run rfl (yLoadA (vs := [_, _, _]) rfl A26 (cOwn 3 rfl rfl)) rfl rfl ?_
  refine .run rfl (yMove rfl) rfl rfl ?_
  refine .run rfl (yMove rfl) rfl rfl ?_
  refine .run rfl (yvIs (c := true) (yCall rfl (.c rfl .n) C74 (fun w hw => isSky_any e w)) (hse.1)) rfl rfl ?_
  refine .run rfl (yMove rfl) rfl rfl ?_
  refine .runG rfl (yMove rfl) rfl rfl rfl rfl ?_
  refine .runG rfl (yMove rfl) rfl rfl rfl rfl ?_
  refine .runG rfl (yvIs (c := true) (yCall rfl (.c rfl .n) C74 (fun w hw => isSky_any n w)) (hse.2)) rfl rfl rfl rfl ?_
  refine .run rfl (yPickT rfl rfl) rfl rfl ?_
  refine .done ?_
  refine effStep 9 [] (by kernel_rfl) closedSt (hLeft [0, 3, 7] (by kernel_rfl) (.c (fun _ _ hs => hs.ef) (.c (fun _ _ hs => hs.ef) (.c (fun _ _ hs => hs.ef) .n)))) ?_
  refine .c ?_ .n
  refine effOne rfl (gNone rfl (fCallO rfl (.c rfl (.c rfl .n)) C59 (fun w hw => told_any y p true w (hm.eff0 hw) h'))) ?_
  refine effStep 10 [] (by kernel_rfl) (closedEx fun x => closedSt) (hLeft [] (by kernel_rfl) .n) ?_
  refine .c ?_ .n
  refine effOne rfl (opEx fun x => (gNone rfl (fV (yAssign rfl) rfl))) ?_
  refine effDone (closedEx fun x => closedSt) (hLeft [] (by kernel_rfl) .n) (by kernel_rfl) ?_
  refine trEx fun x => ?_
  obtain ⟨⟨pb, mb⟩, _⟩ := x
  dsimp only
  refine kThen ?_
  refine kSeq ?_
  refine kRegion rfl ?_
  refine lE rfl ?_
  refine eAlloc Z96 fun n11 => ?_
  refine lNil ?_
  refine kThen ?_
  refine kSeq ?_
  refine kSeq ?_
  refine kRegion rfl ?_
  refine lV (yMove rfl) rfl rfl ?_
  refine lV (yNilCheckP rfl) rfl rfl ?_
  refine lV (yFieldAddr rfl F90_1) rfl rfl ?_
  refine lV (yLoad1 rfl O88 (cOwn 5 rfl rfl)) rfl rfl ?_
  refine lE rfl ?_
  refine eRange MP88 rfl (fun w hw => hw.blkAt 6 rfl) fun it => ?_
  refine lNil ?_
  refine kThen ?_
  refine kBlock ?_
  refine kLoopX (ι := Array Nat × Ends × Ends) (fun x => (∀ j, x.1.contains j = true → j < (filS p (knownP p) (nSc p)).length) ∧ Hull x.2.1 (SeenS x.1 fun j => findQ p false e ((scalesP p (knownP p)).getD j 0)) ∧ Hull x.2.2 (SeenS x.1 fun j => findQ p true n ((scalesP p (knownP p)).getD j 0))) (fun x => []) [(0, _), (1, _), (2, _), (3, _), (6, _), (7, _), (8, _), (20, _), (9, _), (21, _), (22, _), (23, _), (24, _), (25, _), (26, _), (27, _), (28, _), (29, _), (30, _), (10, _), (11, _), (31, _), (32, _), (33, _), (34, _), (35, _)] (fun x => []) (fun x => [(it, itO mb (esA p (knownP p)) x.1), (n11, blk (endC2 x.2.1 x.2.2) 96)]) [(n8, _), (n7, _), (n6, _), (n3, _), (pb, _), (mb, _)] (fun x => leftN (filS p (knownP p) (nSc p)).length x.1) (#[], end0, end0) (⟨fun j h => by simp at h, SeenS.empty _, SeenS.empty _⟩) rfl .n (.c rfl (.c rfl (.c rfl (.c rfl (.c rfl (.c rfl (.c rfl (.c rfl (.c rfl (.c rfl (.c rfl (.c rfl (.c rfl (.c rfl (.c rfl (.c rfl (.c rfl (.c rfl (.c rfl (.c rfl (.c rfl (.c rfl (.c rfl (.c rfl (.c rfl (.c rfl .n)))))))))))))))))))))))))) (.c 2 rfl (.c 2 rfl (.c 2 rfl (.c 2 rfl (.c 2 rfl (.c 2 rfl (.c 0 rfl (.c 0 rfl .n)))))))) ?_
  rintro ⟨seen, a, b⟩ ⟨hsn, ha, hb⟩
  dsimp only at hsn ha hb ⊢
  refine kSeq ?_
  refine kRegion rfl ?_
  refine lE rfl ?_
  refine eNext 6 rfl rfl (fun w hw => hw.blkAt 5 rfl) (fun hall => ?_) (fun j p hj hsj => ?_)
  · refine lV (yExtract rfl rfl) rfl rfl ?_
    refine lNil ?_
    refine kThen ?_
    refine kSeq ?_
    refine kIfF rfl ?_
    refine kExit ?_
    refine kThenX ?_
    refine kThenX ?_
    refine kInX ?_
    refine kThen ?_
    refine kSeq ?_
    refine kRegion rfl ?_
    refine lV (yIndexAr rfl rfl R96 (by omega) (by omega)) rfl rfl ?_
    refine lV (yFieldAddr rfl F86_2) rfl rfl ?_
    refine lV (yLoad1 rfl O4 (cOwn 7 rfl rfl)) rfl rfl ?_
    refine lV (yMove rfl) rfl rfl ?_
    refine splitB (t := 94) rfl (fun h94 => ?_) (fun h94 => ?_)
    · refine lGY rfl rfl rfl (oV (yIndexAr rfl rfl R96 (by omega) (by omega)) rfl ?_)
      refine lGY rfl rfl rfl (oV (yFieldAddr rfl F86_2) rfl ?_)
      refine lGY rfl rfl rfl (oV (yLoad1 rfl O4 (cOwn 7 rfl rfl)) rfl ?_)
      refine lV (yPickT rfl rfl) rfl rfl ?_
      refine splitB (t := 98) rfl (fun h98 => ?_) (fun h98 => ?_)
      · refine lV (yCall rfl (.c rfl (.c rfl .n)) C76 (fun w hw => need_ok 4 w)) rfl rfl ?_
        refine lNil ?_
        refine kThen ?_
        refine kSeq ?_
        refine kDrawE [(1, none), (2, none), (4, none), (5, none)] [] [0, 1, 2, 3, 4, 5] 3 hMix (by kernel_rfl) ?_
        refine .run rfl (yIndexAr rfl rfl R96 (by omega) (by omega)) rfl rfl ?_
        refine .run rfl (yLoadA (vs := [_, _, _]) rfl A86 (cOwn 7 rfl rfl)) rfl rfl ?_
        refine .run rfl (yCall rfl (.c rfl .n) C56 (fun w hw => span_any _ w)) rfl rfl ?_
        refine .run rfl (yIndexAr rfl rfl R96 (by omega) (by omega)) rfl rfl ?_
        refine .run rfl (yLoadA (vs := [_, _, _]) rfl A86 (cOwn 7 rfl rfl)) rfl rfl ?_
        refine .run rfl (yCall rfl (.c rfl .n) C56 (fun w hw => span_any _ w)) rfl rfl ?_
        refine .done ?_
        refine effStep 6 [] (by kernel_rfl) closedSt (hLeft [1, 2, 4, 5] (by kernel_rfl) (.c (fun _ _ hs => hs.ef) (.c (fun _ _ hs => hs.ef) (.c (fun _ _ hs => hs.ef) (.c (fun _ _ hs => hs.ef) .n))))) ?_
        refine .c ?_ .n
        refine effOne rfl (gNone rfl (fStoreL 2 rfl rfl rfl rfl K23 rfl (rfl))) ?_
        refine effStep 7 [] (by kernel_rfl) closedSt (hLeft [] (by kernel_rfl) .n) ?_
        refine .c ?_ .n
        refine effOne rfl (gNone rfl (fStoreL 1 rfl rfl rfl rfl K23 rfl (rfl))) ?_
        refine effStep 8 [] (by kernel_rfl) closedSt (hLeft [] (by kernel_rfl) .n) ?_
        refine .c ?_ .n
        refine effOne rfl (gNone rfl (fStoreL 0 rfl rfl rfl rfl K29 rfl (rfl))) ?_
        refine effDone closedSt (hLeft [] (by kernel_rfl) .n) (by kernel_rfl) ?_
        refine kThen ?_
        refine kRet ?_
        refine fRetC DFind C73 rfl (.cA (us := [_, _]) rfl A23 (cOwn 2 rfl rfl) (.cA (us := [_, _]) rfl A23 (cOwn 1 rfl rfl) (.c1 rfl O29 (cOwn 0 rfl rfl) .n))) (endRet ?_)
        have e1 := SeenS.all (G := findQ p false e) ha (scalesP_len p (knownP p)).symm hsn (fun i hi => hall i (by rw [esP_len]; exact hi))
        have e2 := SeenS.all (G := findQ p true n) hb (scalesP_len p (knownP p)).symm hsn (fun i hi => hall i (by rw [esP_len]; exact hi))
        subst e1 e2
        have hx : (findH p false e).some = true ∧ (findH p true n).some = true := ⟨h94, h98⟩
        simp only [packV, findE, if_neg (not_not_intro h), if_pos hx]
        rfl
      · refine lE rfl ?_
        refine eCallP rfl (.c rfl (.c rfl .n)) C76 (fun w hw => need_pan 4 w) ?_
        refine kThenP ?_
        have e1 := SeenS.all (G := findQ p false e) ha (scalesP_len p (knownP p)).symm hsn (fun i hi => hall i (by rw [esP_len]; exact hi))
        have e2 := SeenS.all (G := findQ p true n) hb (scalesP_len p (knownP p)).symm hsn (fun i hi => hall i (by rw [esP_len]; exact hi))
        refine fPanC 0 DFind C73 rfl rfl (.cA (us := [_, _]) rfl A23 (cOwn 2 rfl rfl) (.cA (us := [_, _]) rfl A23 (cOwn 1 rfl rfl) (.c1 rfl O29 (cOwn 0 rfl rfl) .n))) (endRet ?_)
        subst e1 e2
        have hx : ¬ ((findH p false e).some = true ∧ (findH p true n).some = true) := by
          unfold findH
          rw [h94]
          first | (rw [h98]; decide) | (simp only [Bool.false_eq_true, false_and, not_false_eq_true]; done)
        simp only [packV, findE, if_neg (not_not_intro h), if_neg hx]
    · refine lGN rfl rfl rfl rfl rfl ?_
      refine lGN rfl rfl rfl rfl rfl ?_
      refine lGN rfl rfl rfl rfl rfl ?_
      refine lV (yPickF rfl rfl) rfl rfl ?_
      refine lE rfl ?_
      refine eCallP rfl (.c rfl (.c rfl .n)) C76 (fun w hw => need_pan 4 w) ?_
      refine kThenP ?_
      have e1 := SeenS.all (G := findQ p false e) ha (scalesP_len p (knownP p)).symm hsn (fun i hi => hall i (by rw [esP_len]; exact hi))
      have e2 := SeenS.all (G := findQ p true n) hb (scalesP_len p (knownP p)).symm hsn (fun i hi => hall i (by rw [esP_len]; exact hi))
      refine fPanC 0 DFind C73 rfl rfl (.cA (us := [_, _]) rfl A23 (cOwn 2 rfl rfl) (.cA (us := [_, _]) rfl A23 (cOwn 1 rfl rfl) (.c1 rfl O29 (cOwn 0 rfl rfl) .n))) (endRet ?_)
      subst e1 e2
      have hx : ¬ ((findH p false e).some = true ∧ (findH p true n).some = true) := by
        unfold findH
        rw [h94]
        first | (rw [h98]; decide) | (simp only [Bool.false_eq_true, false_and, not_false_eq_true]; done)
      simp only [packV, findE, if_neg (not_not_intro h), if_neg hx]
  · obtain ⟨hjl, rfl⟩ := esP_get hj
    have heo := entry_ok hp hjl
    have hcb := corn_bd heo.2
    have hs1 := sc_pos hp hjl
    obtain ⟨F0, hF0⟩ : ∃ F, F = findQ p false e ((scalesP p (knownP p)).getD j 0) := ⟨_, rfl⟩
    obtain ⟨F1, hF1⟩ : ∃ F, F = findQ p true n ((scalesP p (knownP p)).getD j 0) := ⟨_, rfl⟩
    refine lV (yExtract rfl rfl) rfl rfl ?_
    refine lNil ?_
    refine kThen ?_
    refine kSeq ?_
    refine kIfT rfl ?_
    refine kSkip ?_
    refine kThen ?_
    refine kBlock ?_
    refine kSeq ?_
    refine kRegion rfl ?_
    refine lV (yEntry rfl hj (fun w hw => ⟨hw.blkAt 6 rfl, hw.blkAt 5 rfl⟩)) rfl rfl ?_
    refine lV (yExtract rfl rfl) rfl rfl ?_
    refine lV (yExtract rfl rfl) rfl rfl ?_
    refine lE rfl ?_
    refine eAlloc Z97 fun n13 => ?_
    refine lV (yAssign rfl) rfl rfl ?_
    refine lE rfl ?_
    refine eStoreL 0 rfl rfl rfl rfl K97 rfl (rfl) ?_
    refine lNil ?_
    refine kThen ?_
    refine kSeq ?_
    refine kRegion rfl ?_
    refine lV (yMove rfl) rfl rfl ?_
    refine lV (yMove rfl) rfl rfl ?_
    refine lE rfl ?_
    refine eBuildSlice (.c rfl (.c rfl .n)) (fun w => BS56_2_0_1 w) fun n43 => ?_
    refine lV (yLen rfl S56) rfl rfl ?_
    refine lV (yMove rfl) rfl rfl ?_
    refine lNil ?_
    refine kThen ?_
    refine kBlock ?_
    refine kLoopX (ι := Nat) (fun q => q ≤ 2) (fun q => [(45, i64 (q : Nat))]) [(0, _), (1, _), (2, _), (3, _), (6, _), (7, _), (8, _), (20, _), (9, _), (21, _), (22, _), (23, _), (24, _), (25, _), (26, _), (27, _), (28, _), (29, _), (30, _), (10, _), (11, _), (31, _), (32, _), (33, _), (34, _), (35, _), (36, _), (37, _), (38, _), (39, _), (40, _), (13, _), (12, _), (41, _), (42, _), (43, _), (44, _)] (fun q => []) (fun q => [(n11, blk (endC2 (cond (Nat.blt 0 q) (F0.foldl keepE a) a) (cond (Nat.blt 1 q) (F1.foldl keepE b) b)) 96)]) [(n43, _), (n13, _), (n8, _), (n7, _), (n6, _), (n3, _), (pb, _), (mb, _), (it, _)] (fun q => 2 - q) 0 (by omega) rfl (.c rfl .n) (.c rfl (.c rfl (.c rfl (.c rfl (.c rfl (.c rfl (.c rfl (.c rfl (.c rfl (.c rfl (.c rfl (.c rfl (.c rfl (.c rfl (.c rfl (.c rfl (.c rfl (.c rfl (.c rfl (.c rfl (.c rfl (.c rfl (.c rfl (.c rfl (.c rfl (.c rfl (.c rfl (.c rfl (.c rfl (.c rfl (.c rfl (.c rfl (.c rfl (.c rfl (.c rfl (.c rfl (.c rfl .n))))))))))))))))))))))))))))))))))))) (.c 0 rfl (.c 0 rfl (.c 0 rfl (.c 0 rfl (.c 0 rfl (.c 0 rfl (.c 0 rfl (.c 0 rfl (.c 0 rfl (.c 0 rfl .n)))))))))) ?_
    rintro q hq
    refine kSeq ?_
    refine kRegion rfl ?_
    refine lV (yLss rfl rfl) rfl rfl ?_
    refine lNil ?_
    refine kThen ?_
    refine kSeq ?_
    refine split (t := 46) rfl (fun h46 => ?_) (fun h46 => ?_)
    · refine kIfT rfl ?_
      refine kSkip ?_
      refine kThen ?_
      refine kSeq ?_
      refine kBlock ?_
      refine kSeq ?_
      by_cases hq0 : q = 0
      · subst hq0
        have hcc := hcb false
        refine kRegion rfl ?_
        refine lV (yMove rfl) rfl rfl ?_
        refine lV (yIndexSl rfl rfl S56 (by omega) (by omega)) rfl rfl ?_
        refine lV (yLoad1 rfl O3 (cOwn 0 rfl rfl)) rfl rfl ?_
        refine lV (yAssign rfl) rfl rfl ?_
        refine lV (yAssign rfl) rfl rfl ?_
        refine lNil ?_
        refine kThen ?_
        refine kSeq ?_
        refine kDrawE [(4, none), (11, none)] [] [0, 1, 2, 3, 4, 5, 6, 7, 8, 9, 10, 11, 12, 13, 14] 0 hMix (by kernel_rfl) ?_
        refine .run rfl (yMove rfl) rfl rfl ?_
        refine .run rfl (yMove rfl) rfl rfl ?_
        refine .run rfl (yIndexAr rfl rfl R97 (by omega) (by omega)) rfl rfl ?_
        refine .run rfl (yFieldAddr rfl F23_1) rfl rfl ?_
        refine .run rfl (yLoad1 rfl O3 (cOwn 1 rfl rfl)) rfl rfl ?_
        refine .run rfl (ySub rfl rfl (by omega)) rfl rfl ?_
        refine .run rfl (yMax rfl rfl) rfl rfl ?_
        refine .run rfl (yMove rfl) rfl rfl ?_
        refine .run rfl (yMove rfl) rfl rfl ?_
        refine .run rfl (yIndexAr rfl rfl R97 (by omega) (by omega)) rfl rfl ?_
        refine .run rfl (yFieldAddr rfl F23_0) rfl rfl ?_
        refine .run rfl (yLoad1 rfl O3 (cOwn 1 rfl rfl)) rfl rfl ?_
        refine .run rfl (ySub rfl rfl (by omega)) rfl rfl ?_
        refine .run rfl (yAssign rfl) rfl rfl ?_
        refine .run rfl (yAssign rfl) rfl rfl ?_
        refine .done ?_
        refine effDone closedSt (hLeft [4, 11] (by kernel_rfl) (.c (fun _ _ hs => hs.ef) (.c (fun _ _ hs => hs.ef) .n))) (by kernel_rfl) ?_
        refine kThen ?_
        refine kSeq ?_
        refine kSeq ?_
        refine kRegion rfl ?_
        refine lV (yMove rfl) rfl rfl ?_
        refine lV (yLss rfl rfl) rfl rfl ?_
        refine split (t := 64) rfl (fun h64 => ?_) (fun h64 => ?_)
        · obtain rfl : F0 = [] := by rw [hF0, findQ, findC, if_pos h64]
          refine lNil ?_
          refine kThen ?_
          refine kIfT rfl ?_
          refine kExit ?_
          refine kThenX ?_
          refine kInX ?_
          refine kThen ?_
          refine kRegion rfl ?_
          refine lV (yAdd rfl rfl (by omega)) rfl rfl ?_
          refine lV (yMove rfl) rfl rfl ?_
          refine lNil ?_
          exact kRoundX 1 (by omega) (by omega) rfl (.c rfl .n) (.c rfl (.c rfl (.c rfl (.c rfl (.c rfl (.c rfl (.c rfl (.c rfl (.c rfl (.c rfl (.c rfl (.c rfl (.c rfl (.c rfl (.c rfl (.c rfl (.c rfl (.c rfl (.c rfl (.c rfl (.c rfl (.c rfl (.c rfl (.c rfl (.c rfl (.c rfl (.c rfl (.c rfl (.c rfl (.c rfl (.c rfl (.c rfl (.c rfl (.c rfl (.c rfl (.c rfl (.c rfl .n))))))))))))))))))))))))))))))))))))) (.c 0 rfl (.c 0 rfl (.c 0 rfl (.c 0 rfl (.c 0 rfl (.c 0 rfl (.c 0 rfl (.c 0 rfl (.c 0 rfl (.c 0 rfl .n))))))))))
        · refine lNil ?_
          refine kThen ?_
          refine kIfF rfl ?_
          refine kSkip ?_
          refine kThen ?_
          refine kSeq ?_
          refine kDrawE [] [] [0, 1, 2, 3, 4, 5, 6, 7, 8, 9, 10, 11, 12, 13, 14, 15] 0 hMix (by kernel_rfl) ?_
          refine .run rfl (yMove rfl) rfl rfl ?_
          refine .run rfl (yMul rfl rfl (by omega)) rfl rfl ?_
          refine .run rfl (yMove rfl) rfl rfl ?_
          refine .run rfl (yAdd rfl rfl (by omega)) rfl rfl ?_
          refine .run rfl (ySub rfl rfl (by omega)) rfl rfl ?_
          refine .run rfl (yMove rfl) rfl rfl ?_
          refine .run rfl (yQuo rfl rfl (by omega) (by omega) (by omega)) rfl rfl ?_
          refine .run rfl (yMove rfl) rfl rfl ?_
          refine .run rfl (yAdd rfl rfl (by omega)) rfl rfl ?_
          refine .run rfl (yMul rfl rfl (by omega)) rfl rfl ?_
          refine .run rfl (ySub rfl rfl (by omega)) rfl rfl ?_
          refine .run rfl (yMove rfl) rfl rfl ?_
          refine .run rfl (yQuo rfl rfl (by omega) (by omega) (by omega)) rfl rfl ?_
          refine .run rfl (yMin rfl rfl) rfl rfl ?_
          refine .run rfl (yAssign rfl) rfl rfl ?_
          refine .run rfl (yAssign rfl) rfl rfl ?_
          refine .done ?_
          refine effDone closedSt (hLeft [] (by kernel_rfl) .n) (by kernel_rfl) ?_
          refine kThen ?_
          refine kSeq ?_
          refine kRegion rfl ?_
          refine lV (yMove rfl) rfl rfl ?_
          refine lV (yMove rfl) rfl rfl ?_
          refine lV (yLeq rfl rfl) rfl rfl ?_
          refine split (t := 81) rfl (fun h81 => ?_) (fun h81 => ?_)
          · obtain rfl : F0 = [_, _] := by rw [hF0, findQ, findC, if_neg h64, if_pos h81]
            refine lNil ?_
            refine kThen ?_
            refine kIfT rfl ?_
            refine kSeq ?_
            refine kRegion rfl ?_
            refine lV (yMove rfl) rfl rfl ?_
            refine lV (yIndexAr rfl rfl R96 (by omega) (by omega)) rfl rfl ?_
            refine lV (yMove rfl) rfl rfl ?_
            refine lE rfl ?_
            refine eCallW 9 rfl rfl (.c rfl (.c rfl .n)) C54 (fun w hw hb => keepA _ a b _ w hb) ?_
            refine lNil ?_
            refine kThen ?_
            refine kRegion rfl ?_
            refine lV (yMove rfl) rfl rfl ?_
            refine lV (yIndexAr rfl rfl R96 (by omega) (by omega)) rfl rfl ?_
            refine lV (yMove rfl) rfl rfl ?_
            refine lE rfl ?_
            refine eCallW 9 rfl rfl (.c rfl (.c rfl .n)) C54 (fun w hw hb => keepA _ _ b _ w hb) ?_
            refine lNil ?_
            refine kInN ?_
            refine kThen ?_
            refine kRegion rfl ?_
            refine lV (yAdd rfl rfl (by omega)) rfl rfl ?_
            refine lV (yMove rfl) rfl rfl ?_
            refine lNil ?_
            exact kRoundX 1 (by omega) (by omega) rfl (.c rfl .n) (.c rfl (.c rfl (.c rfl (.c rfl (.c rfl (.c rfl (.c rfl (.c rfl (.c rfl (.c rfl (.c rfl (.c rfl (.c rfl (.c rfl (.c rfl (.c rfl (.c rfl (.c rfl (.c rfl (.c rfl (.c rfl (.c rfl (.c rfl (.c rfl (.c rfl (.c rfl (.c rfl (.c rfl (.c rfl (.c rfl (.c rfl (.c rfl (.c rfl (.c rfl (.c rfl (.c rfl (.c rfl .n))))))))))))))))))))))))))))))))))))) (.c 0 rfl (.c 0 rfl (.c 0 rfl (.c 0 rfl (.c 0 rfl (.c 0 rfl (.c 0 rfl (.c 0 rfl (.c 0 rfl (.c 0 rfl .n))))))))))
          · obtain rfl : F0 = [] := by rw [hF0, findQ, findC, if_neg h64, if_neg h81]
            refine lNil ?_
            refine kThen ?_
            refine kIfF rfl ?_
            refine kSkip ?_
            refine kInN ?_
            refine kThen ?_
            refine kRegion rfl ?_
            refine lV (yAdd rfl rfl (by omega)) rfl rfl ?_
            refine lV (yMove rfl) rfl rfl ?_
            refine lNil ?_
            exact kRoundX 1 (by omega) (by omega) rfl (.c rfl .n) (.c rfl (.c rfl (.c rfl (.c rfl (.c rfl (.c rfl (.c rfl (.c rfl (.c rfl (.c rfl (.c rfl (.c rfl (.c rfl (.c rfl (.c rfl (.c rfl (.c rfl (.c rfl (.c rfl (.c rfl (.c rfl (.c rfl (.c rfl (.c rfl (.c rfl (.c rfl (.c rfl (.c rfl (.c rfl (.c rfl (.c rfl (.c rfl (.c rfl (.c rfl (.c rfl (.c rfl (.c rfl .n))))))))))))))))))))))))))))))))))))) (.c 0 rfl (.c 0 rfl (.c 0 rfl (.c 0 rfl (.c 0 rfl (.c 0 rfl (.c 0 rfl (.c 0 rfl (.c 0 rfl (.c 0 rfl .n))))))))))
      · obtain rfl : q = 1 := by omega
        have hcc := hcb true
        refine kRegion rfl ?_
        refine lV (yMove rfl) rfl rfl ?_
        refine lV (yIndexSl rfl rfl S56 (by omega) (by omega)) rfl rfl ?_
        refine lV (yLoad1 rfl O3 (cOwn 0 rfl rfl)) rfl rfl ?_
        refine lV (yAssign rfl) rfl rfl ?_
        refine lV (yAssign rfl) rfl rfl ?_
        refine lNil ?_
        refine kThen ?_
        refine kSeq ?_
        refine kDrawE [(4, none), (11, none)] [] [0, 1, 2, 3, 4, 5, 6, 7, 8, 9, 10, 11, 12, 13, 14] 0 hMix (by kernel_rfl) ?_
        refine .run rfl (yMove rfl) rfl rfl ?_
        refine .run rfl (yMove rfl) rfl rfl ?_
        refine .run rfl (yIndexAr rfl rfl R97 (by omega) (by omega)) rfl rfl ?_
        refine .run rfl (yFieldAddr rfl F23_1) rfl rfl ?_
        refine .run rfl (yLoad1 rfl O3 (cOwn 1 rfl rfl)) rfl rfl ?_
        refine .run rfl (ySub rfl rfl (by omega)) rfl rfl ?_
        refine .run rfl (yMax rfl rfl) rfl rfl ?_
        refine .run rfl (yMove rfl) rfl rfl ?_
        refine .run rfl (yMove rfl) rfl rfl ?_
        refine .run rfl (yIndexAr rfl rfl R97 (by omega) (by omega)) rfl rfl ?_
        refine .run rfl (yFieldAddr rfl F23_0) rfl rfl ?_
        refine .run rfl (yLoad1 rfl O3 (cOwn 1 rfl rfl)) rfl rfl ?_
        refine .run rfl (ySub rfl rfl (by omega)) rfl rfl ?_
        refine .run rfl (yAssign rfl) rfl rfl ?_
        refine .run rfl (yAssign rfl) rfl rfl ?_
        refine .done ?_
        refine effDone closedSt (hLeft [4, 11] (by kernel_rfl) (.c (fun _ _ hs => hs.ef) (.c (fun _ _ hs => hs.ef) .n))) (by kernel_rfl) ?_
        refine kThen ?_
        refine kSeq ?_
        refine kSeq ?_
        refine kRegion rfl ?_
        refine lV (yMove rfl) rfl rfl ?_
        refine lV (yLss rfl rfl) rfl rfl ?_
        refine split (t := 64) rfl (fun h64 => ?_) (fun h64 => ?_)
        · obtain rfl : F1 = [] := by rw [hF1, findQ, findC, if_pos h64]
          refine lNil ?_
          refine kThen ?_
          refine kIfT rfl ?_
          refine kExit ?_
          refine kThenX ?_
          refine kInX ?_
          refine kThen ?_
          refine kRegion rfl ?_
          refine lV (yAdd rfl rfl (by omega)) rfl rfl ?_
          refine lV (yMove rfl) rfl rfl ?_
          refine lNil ?_
          exact kRoundX 2 (by omega) (by omega) rfl (.c rfl .n) (.c rfl (.c rfl (.c rfl (.c rfl (.c rfl (.c rfl (.c rfl (.c rfl (.c rfl (.c rfl (.c rfl (.c rfl (.c rfl (.c rfl (.c rfl (.c rfl (.c rfl (.c rfl (.c rfl (.c rfl (.c rfl (.c rfl (.c rfl (.c rfl (.c rfl (.c rfl (.c rfl (.c rfl (.c rfl (.c rfl (.c rfl (.c rfl (.c rfl (.c rfl (.c rfl (.c rfl (.c rfl .n))))))))))))))))))))))))))))))))))))) (.c 0 rfl (.c 0 rfl (.c 0 rfl (.c 0 rfl (.c 0 rfl (.c 0 rfl (.c 0 rfl (.c 0 rfl (.c 0 rfl (.c 0 rfl .n))))))))))
        · refine lNil ?_
          refine kThen ?_
          refine kIfF rfl ?_
          refine kSkip ?_
          refine kThen ?_
          refine kSeq ?_
          refine kDrawE [] [] [0, 1, 2, 3, 4, 5, 6, 7, 8, 9, 10, 11, 12, 13, 14, 15] 0 hMix (by kernel_rfl) ?_
          refine .run rfl (yMove rfl) rfl rfl ?_
          refine .run rfl (yMul rfl rfl (by omega)) rfl rfl ?_
          refine .run rfl (yMove rfl) rfl rfl ?_
          refine .run rfl (yAdd rfl rfl (by omega)) rfl rfl ?_
          refine .run rfl (ySub rfl rfl (by omega)) rfl rfl ?_
          refine .run rfl (yMove rfl) rfl rfl ?_
          refine .run rfl (yQuo rfl rfl (by omega) (by omega) (by omega)) rfl rfl ?_
          refine .run rfl (yMove rfl) rfl rfl ?_
          refine .run rfl (yAdd rfl rfl (by omega)) rfl rfl ?_
          refine .run rfl (yMul rfl rfl (by omega)) rfl rfl ?_
          refine .run rfl (ySub rfl rfl (by omega)) rfl rfl ?_
          refine .run rfl (yMove rfl) rfl rfl ?_
          refine .run rfl (yQuo rfl rfl (by omega) (by omega) (by omega)) rfl rfl ?_
          refine .run rfl (yMin rfl rfl) rfl rfl ?_
          refine .run rfl (yAssign rfl) rfl rfl ?_
          refine .run rfl (yAssign rfl) rfl rfl ?_
          refine .done ?_
          refine effDone closedSt (hLeft [] (by kernel_rfl) .n) (by kernel_rfl) ?_
          refine kThen ?_
          refine kSeq ?_
          refine kRegion rfl ?_
          refine lV (yMove rfl) rfl rfl ?_
          refine lV (yMove rfl) rfl rfl ?_
          refine lV (yLeq rfl rfl) rfl rfl ?_
          refine split (t := 81) rfl (fun h81 => ?_) (fun h81 => ?_)
          · obtain rfl : F1 = [_, _] := by rw [hF1, findQ, findC, if_neg h64, if_pos h81]
            refine lNil ?_
            refine kThen ?_
            refine kIfT rfl ?_
            refine kSeq ?_
            refine kRegion rfl ?_
            refine lV (yMove rfl) rfl rfl ?_
            refine lV (yIndexAr rfl rfl R96 (by omega) (by omega)) rfl rfl ?_
            refine lV (yMove rfl) rfl rfl ?_
            refine lE rfl ?_
            refine eCallW 9 rfl rfl (.c rfl (.c rfl .n)) C54 (fun w hw hb => keepB _ _ b _ w hb) ?_
            refine lNil ?_
            refine kThen ?_
            refine kRegion rfl ?_
            refine lV (yMove rfl) rfl rfl ?_
            refine lV (yIndexAr rfl rfl R96 (by omega) (by omega)) rfl rfl ?_
            refine lV (yMove rfl) rfl rfl ?_
            refine lE rfl ?_
            refine eCallW 9 rfl rfl (.c rfl (.c rfl .n)) C54 (fun w hw hb => keepB _ _ _ _ w hb) ?_
            refine lNil ?_
            refine kInN ?_
            refine kThen ?_
            refine kRegion rfl ?_
            refine lV (yAdd rfl rfl (by omega)) rfl rfl ?_
            refine lV (yMove rfl) rfl rfl ?_
            refine lNil ?_
            exact kRoundX 2 (by omega) (by omega) rfl (.c rfl .n) (.c rfl (.c rfl (.c rfl (.c rfl (.c rfl (.c rfl (.c rfl (.c rfl (.c rfl (.c rfl (.c rfl (.c rfl (.c rfl (.c rfl (.c rfl (.c rfl (.c rfl (.c rfl (.c rfl (.c rfl (.c rfl (.c rfl (.c rfl (.c rfl (.c rfl (.c rfl (.c rfl (.c rfl (.c rfl (.c rfl (.c rfl (.c rfl (.c rfl (.c rfl (.c rfl (.c rfl (.c rfl .n))))))))))))))))))))))))))))))))))))) (.c 0 rfl (.c 0 rfl (.c 0 rfl (.c 0 rfl (.c 0 rfl (.c 0 rfl (.c 0 rfl (.c 0 rfl (.c 0 rfl (.c 0 rfl .n))))))))))
          · obtain rfl : F1 = [] := by rw [hF1, findQ, findC, if_neg h64, if_neg h81]
            refine lNil ?_
            refine kThen ?_
            refine kIfF rfl ?_
            refine kSkip ?_
            refine kInN ?_
            refine kThen ?_
            refine kRegion rfl ?_
            refine lV (yAdd rfl rfl (by omega)) rfl rfl ?_
            refine lV (yMove rfl) rfl rfl ?_
            refine lNil ?_
            exact kRoundX 2 (by omega) (by omega) rfl (.c rfl .n) (.c rfl (.c rfl (.c rfl (.c rfl (.c rfl (.c rfl (.c rfl (.c rfl (.c rfl (.c rfl (.c rfl (.c rfl (.c rfl (.c rfl (.c rfl (.c rfl (.c rfl (.c rfl (.c rfl (.c rfl (.c rfl (.c rfl (.c rfl (.c rfl (.c rfl (.c rfl (.c rfl (.c rfl (.c rfl (.c rfl (.c rfl (.c rfl (.c rfl (.c rfl (.c rfl (.c rfl (.c rfl .n))))))))))))))))))))))))))))))))))))) (.c 0 rfl (.c 0 rfl (.c 0 rfl (.c 0 rfl (.c 0 rfl (.c 0 rfl (.c 0 rfl (.c 0 rfl (.c 0 rfl (.c 0 rfl .n))))))))))
    · refine kIfF rfl ?_
      refine kExit ?_
      refine kThenX ?_
      refine kThenX ?_
      refine kInX ?_
      refine kInN ?_
      obtain rfl : q = 2 := by omega
      exact kRoundX (seen.push j, F0.foldl keepE a, F1.foldl keepE b) (⟨seen_push hsn hjl, by rw [hF0]; exact SeenS.push j ha, by rw [hF1]; exact SeenS.push j hb⟩) (leftN_push hjl hsj) rfl .n (.c rfl (.c rfl (.c rfl (.c rfl (.c rfl (.c rfl (.c rfl (.c rfl (.c rfl (.c rfl (.c rfl (.c rfl (.c rfl (.c rfl (.c rfl (.c rfl (.c rfl (.c rfl (.c rfl (.c rfl (.c rfl (.c rfl (.c rfl (.c rfl (.c rfl (.c rfl .n)))))))))))))))))))))))))) (.c 2 rfl (.c 2 rfl (.c 2 rfl (.c 2 rfl (.c 2 rfl (.c 2 rfl (.c 2 rfl (.c 2 rfl .n))))))))
theorem find_any (y : Option Addr × Nat) (p : Plt) (e n : Int) (w : World) (hm : InP w y p) : Calls Try.prog 24 [.agg (pltC y p).toArray, i64 e, i64 n].toArray w (Ret w (outC2 (findE p e n))) := by
  by_cases h : toldE p (isSkyB e && isSkyB n) = 0
  · exact find_ok y p e n w hm h
  · exact find_bad y p e n w hm h
end Go.Proofs.Ytlcdohhhhlhpmaa
