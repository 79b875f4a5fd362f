/-
  Texts Ao, Ap, Aq, Ar, As in one.
-/
import Derived.Test.YtlcdohhhhlhpmaaP3
import Derived.Test.YtlcdohhhhlhpmaaE3
namespace Go.Proofs.Ytlcdohhhhlhpmaa
open ZW

abbrev isSkyB (n : Int) : Bool := decide (-1048576 ≤ n ∧ n ≤ 1048576)
set_option maxRecDepth 100000 in
theorem isSky_any (n : Int) (w : World) : Calls Try.prog 74 [i64 n].toArray w (Ret w (.bool (isSkyB n))) := by
  refine fEnter Try.func74 rfl Try.ntmps74 rfl ?_
  refine kSeq ?_
  refine kRegion rfl ?_
  refine lV (yAssign rfl) rfl rfl ?_
  refine lNil ?_
  refine kThen ?_
  refine kSeq ?_
  refine kRegion rfl ?_
  refine lV (yMove rfl) rfl rfl ?_
  refine lV (yCall rfl (.c rfl (.c rfl (.c rfl .n))) C75 (fun w hw => within_any _ _ _ w)) rfl rfl ?_
  refine lV (yAssign rfl) rfl rfl ?_
  refine lNil ?_
  refine kThen ?_
  refine kRet ?_
  refine fRet rfl (.t rfl .n) (endRet ?_)
  rfl
/-- Where on the plate a place can be, with a corner and a scale. -/
def findC (c : Int × Int) (goal s : Int) : List Int :=
  if goal - c.1 < 0 then [] else if (1000 * max 0 (goal - c.2) + s - 1) / s ≤ min 32768 ((1000 * (goal - c.1 + 1) - 1) / s) then [(1000 * max 0 (goal - c.2) + s - 1) / s, min 32768 ((1000 * (goal - c.1 + 1) - 1) / s)] else []
def findQ (p : Plt) (d : Bool) (goal s : Int) : List Int := findC (cornP p d s (knownP p)) goal s
def findH (p : Plt) (d : Bool) (goal : Int) : Ends := hullE ((scalesP p (knownP p)).flatMap (findQ p d goal))
def findE (p : Plt) (e n : Int) : (Int × Int) × (Int × Int) × Int :=
  if toldE p (isSkyB e && isSkyB n) ≠ 0 then ((0, 0), (0, 0), toldE p (isSkyB e && isSkyB n)) else if (findH p false e).some = true ∧ (findH p true n).some = true then (spanE (findH p false e), spanE (findH p true n), 0) else ((0, 0), (0, 0), 4)
set_option maxRecDepth 100000 in
set_option maxHeartbeats 2000000 in
theorem find_bad (y : Option Addr × Nat) (p : Plt) (e n : Int) (w : World) (hm : InP w y p) (h : toldE p (isSkyB e && isSkyB n) ≠ 0) : Calls Try.prog 24 [.agg (pltC y p).toArray, i64 e, i64 n].toArray w (Ret w (outC2 (findE p e n))) := by
  have he : findE p e n = ((0, 0), (0, 0), toldE p (isSkyB e && isSkyB n)) := by unfold findE; rw [if_pos h]
  rw [he]
  refine fEnter Try.func24 rfl Try.ntmps24 rfl ?_
  refine kSeq ?_
  refine kRegion rfl ?_
  refine lE rfl ?_
  refine eBoxA rfl fun n3 => ?_
  refine lE rfl ?_
  refine eAlloc Z23 fun n6 => ?_
  refine lE rfl ?_
  refine eAlloc Z23 fun n7 => ?_
  refine lE rfl ?_
  refine eAlloc Z29 fun n8 => ?_
  refine lNil ?_
  refine kThen ?_
  refine kSeq ?_
  refine kRegion rfl ?_
  refine lV (yMakeFunc .n (.c rfl .n)) rfl rfl ?_
  refine lE rfl ?_
  refine eDefer rfl .n ?_
  refine lNil ?_
  refine kThen ?_
  refine kSeq ?_
  refine kRegion rfl ?_
  refine lV (yAssign rfl) rfl rfl ?_
  refine lNil ?_
  refine kThen ?_
  refine kSeq ?_
  by_cases hsa : -1048576 ≤ e ∧ e ≤ 1048576
  · rw [show isSkyB e = true from decide_eq_true hsa, Bool.true_and] at h ⊢
    refine kDrawE [(0, none), (3, none), (7, none)] [] [0, 1, 2, 3, 4, 5, 6, 7, 8] 2 hMix (by kernel_rfl) ?_
    refine .run rfl (yLoadA (vs := [_, _, _]) rfl A26 (cOwn 3 rfl rfl)) rfl rfl ?_
    refine .run rfl (yMove rfl) rfl rfl ?_
    refine .run rfl (yMove rfl) rfl rfl ?_
    refine .run rfl (yvIs (c := true) (yCall rfl (.c rfl .n) C74 (fun w hw => isSky_any e w)) (decide_eq_true hsa)) rfl rfl ?_
    refine .run rfl (yMove rfl) rfl rfl ?_
    refine .runG rfl (yMove rfl) rfl rfl rfl rfl ?_
    refine .runG rfl (yMove rfl) rfl rfl rfl rfl ?_
    refine .runG rfl (yCall rfl (.c rfl .n) C74 (fun w hw => isSky_any n w)) rfl rfl rfl rfl ?_
    refine .run rfl (yPickT rfl rfl) rfl rfl ?_
    refine .done ?_
    refine effStep 9 [] (by kernel_rfl) closedSt (hLeft [0, 3, 7] (by kernel_rfl) (.c (fun _ _ hs => hs.ef) (.c (fun _ _ hs => hs.ef) (.c (fun _ _ hs => hs.ef) .n)))) ?_
    refine .c ?_ .n
    refine effLast rfl rfl (by kernel_rfl) ?_
    refine eCallP rfl (.c rfl (.c rfl .n)) C59 (fun w hw => told_bad y p _ w (hm.eff0 hw) h) ?_
    refine kThenP ?_
    refine fPanC 0 DFind C73 rfl rfl (.cA (us := [_, _]) rfl A23 (cOwn 2 rfl rfl) (.cA (us := [_, _]) rfl A23 (cOwn 1 rfl rfl) (.c1 rfl O29 (cOwn 0 rfl rfl) .n))) (endRet ?_)
    simp only [packV]
  · rw [show isSkyB e = false from decide_eq_false hsa, Bool.false_and] at h ⊢
    refine kDrawE [(0, none), (3, none)] [] [0, 1, 2, 3, 4, 5, 6, 7, 8] 2 hMix (by kernel_rfl) ?_
    refine .run rfl (yLoadA (vs := [_, _, _]) rfl A26 (cOwn 3 rfl rfl)) rfl rfl ?_
    refine .run rfl (yMove rfl) rfl rfl ?_
    refine .run rfl (yMove rfl) rfl rfl ?_
    refine .run rfl (yvIs (c := false) (yCall rfl (.c rfl .n) C74 (fun w hw => isSky_any e w)) (decide_eq_false hsa)) rfl rfl ?_
    refine .run rfl (yMove rfl) rfl rfl ?_
    refine .skip rfl rfl rfl rfl rfl rfl ?_
    refine .skip rfl rfl rfl rfl rfl rfl ?_
    refine .skip rfl rfl rfl rfl rfl rfl ?_
    refine .run rfl (yPickF rfl rfl) rfl rfl ?_
    refine .done ?_
    refine effStep 9 [] (by kernel_rfl) closedSt (hLeft [0, 3] (by kernel_rfl) (.c (fun _ _ hs => hs.ef) (.c (fun _ _ hs => hs.ef) .n))) ?_
    refine .c ?_ .n
    refine effLast rfl rfl (by kernel_rfl) ?_
    refine eCallP rfl (.c rfl (.c rfl .n)) C59 (fun w hw => told_bad y p _ w (hm.eff0 hw) h) ?_
    refine kThenP ?_
    refine fPanC 0 DFind C73 rfl rfl (.cA (us := [_, _]) rfl A23 (cOwn 2 rfl rfl) (.cA (us := [_, _]) rfl A23 (cOwn 1 rfl rfl) (.c1 rfl O29 (cOwn 0 rfl rfl) .n))) (endRet ?_)
    simp only [packV]
theorem sc_pos {p : Plt} {set j : Nat} (hp : PltOk p) (hj : j < (filS p set (nSc p)).length) : 1 ≤ (scalesP p set).getD j 0 := by
  have h := scalesP_mem.1 (getD_mem (l := scalesP p set) (i := j) (by rw [scalesP_len]; exact hj) 0)
  have hc := hp.c
  unfold spanOk at hc
  omega
theorem div_bd {a b : Int} (ha : 0 ≤ a) (hb : 1 ≤ b) : 0 ≤ a / b ∧ a / b ≤ a := ⟨Int.ediv_nonneg ha (by omega), Int.ediv_le_self _ ha⟩
set_option maxRecDepth 100000 in
set_option maxHeartbeats 4000000 in
theorem find_ok (y : Option Addr × Nat) (p : Plt) (e n : Int) (w : World) (hm : InP w y p) (h : toldE p (isSkyB e && isSkyB n) = 0) : Calls Try.prog 24 [.agg (pltC y p).toArray, i64 e, i64 n].toArray w (Ret w (outC2 (findE p e n))) := by
  have hp := (truthE_ok (toldE_ok h).1).1
  have hse := (truthE_ok (toldE_ok h).1).2.1
  rw [Bool.and_eq_true] at hse
  have he := of_decide_eq_true hse.1
  have hn := of_decide_eq_true hse.2
  have h' := h
  rw [hse.1, hse.2] at h'
  refine fEnter Try.func24 rfl Try.ntmps24 rfl ?_
  refine kSeq ?_
  refine kRegion rfl ?_
  refine lE rfl ?_
  refine eBoxA rfl fun n3 => ?_
  refine lE rfl ?_
  refine eAlloc Z23 fun n6 => ?_
  refine lE rfl ?_
  refine eAlloc Z23 fun n7 => ?_
  refine lE rfl ?_
  refine eAlloc Z29 fun n8 => ?_
  refine lNil ?_
  refine kThen ?_
  refine kSeq ?_
  refine kRegion rfl ?_
  refine lV (yMakeFunc .n (.c rfl .n)) rfl rfl ?_
  refine lE rfl ?_
  refine eDefer rfl .n ?_
  refine lNil ?_
  refine kThen ?_
  refine kSeq ?_
  refine kRegion rfl ?_
  refine lV (yAssign rfl) rfl rfl ?_
  refine lNil ?_
  refine kThen ?_
  refine kSeq ?_
  refine kDrawE [(0, none), (3, none), (7, none)] [] [0, 1, 2, 3, 4, 5, 6, 7, 8] 2 hMix (by kernel_rfl) ?_
  refine .run rfl (yLoadA (vs := [_, _, _]) rfl A26 (cOwn 3 rfl rfl)) rfl rfl ?_
  refine .run rfl (yMove rfl) rfl rfl ?_
  refine .run rfl (yMove rfl) rfl rfl ?_
  refine .run rfl (yvIs (c := true) (yCall rfl (.c rfl .n) C74 (fun w hw => isSky_any e w)) (hse.1)) rfl rfl ?_
  refine .run rfl (yMove rfl) rfl rfl ?_
  refine .runG rfl (yMove rfl) rfl rfl rfl rfl ?_
  refine .runG rfl (yMove rfl) rfl rfl rfl rfl ?_
  refine .runG rfl (yvIs (c := true) (yCall rfl (.c rfl .n) C74 (fun w hw => isSky_any n w)) (hse.2)) rfl rfl rfl rfl ?_
  refine .run rfl (yPickT rfl rfl) rfl rfl ?_
  refine .done ?_
  refine effStep 9 [] (by kernel_rfl) closedSt (hLeft [0, 3, 7] (by kernel_rfl) (.c (fun _ _ hs => hs.ef) (.c (fun _ _ hs => hs.ef) (.c (fun _ _ hs => hs.ef) .n)))) ?_
  refine .c ?_ .n
  refine effOne rfl (gNone rfl (fCallO rfl (.c rfl (.c rfl .n)) C59 (fun w hw => told_any y p true w (hm.eff0 hw) h'))) ?_
  refine effStep 10 [] (by kernel_rfl) (closedEx fun x => closedSt) (hLeft [] (by kernel_rfl) .n) ?_
  refine .c ?_ .n
  refine effOne rfl (opEx fun x => (gNone rfl (fV (yAssign rfl) rfl))) ?_
  refine effDone (closedEx fun x => closedSt) (hLeft [] (by kernel_rfl) .n) (by kernel_rfl) ?_
  refine trEx fun x => ?_
  obtain ⟨⟨pb, mb⟩, _⟩ := x
  dsimp only
  refine kThen ?_
  refine kSeq ?_
  refine kRegion rfl ?_
  refine lE rfl ?_
  refine eAlloc Z96 fun n11 => ?_
  refine lNil ?_
  refine kThen ?_
  refine kSeq ?_
  refine kSeq ?_
  refine kRegion rfl ?_
  refine lV (yMove rfl) rfl rfl ?_
  refine lV (yNilCheckP rfl) rfl rfl ?_
  refine lV (yFieldAddr rfl F90_1) rfl rfl ?_
  refine lV (yLoad1 rfl O88 (cOwn 5 rfl rfl)) rfl rfl ?_
  refine lE rfl ?_
  refine eRange MP88 rfl (fun w hw => hw.blkAt 6 rfl) fun it => ?_
  refine lNil ?_
  refine kThen ?_
  refine kBlock ?_
  refine kLoopX (ι := Array Nat × Ends × Ends) (fun x => (∀ j, x.1.contains j = true → j < (filS p (knownP p) (nSc p)).length) ∧ Hull x.2.1 (SeenS x.1 fun j => findQ p false e ((scalesP p (knownP p)).getD j 0)) ∧ Hull x.2.2 (SeenS x.1 fun j => findQ p true n ((scalesP p (knownP p)).getD j 0))) (fun x => []) [(0, _), (1, _), (2, _), (3, _), (6, _), (7, _), (8, _), (20, _), (9, _), (21, _), (22, _), (23, _), (24, _), (25, _), (26, _), (27, _), (28, _), (29, _), (30, _), (10, _), (11, _), (31, _), (32, _), (33, _), (34, _), (35, _)] (fun x => []) (fun x => [(it, itO mb (esA p (knownP p)) x.1), (n11, blk (endC2 x.2.1 x.2.2) 96)]) [(n8, _), (n7, _), (n6, _), (n3, _), (pb, _), (mb, _)] (fun x => leftN (filS p (knownP p) (nSc p)).length x.1) (#[], end0, end0) (⟨fun j h => by simp at h, SeenS.empty _, SeenS.empty _⟩) rfl .n (.c rfl (.c rfl (.c rfl (.c rfl (.c rfl (.c rfl (.c rfl (.c rfl (.c rfl (.c rfl (.c rfl (.c rfl (.c rfl (.c rfl (.c rfl (.c rfl (.c rfl (.c rfl (.c rfl (.c rfl (.c rfl (.c rfl (.c rfl (.c rfl (.c rfl (.c rfl .n)))))))))))))))))))))))))) (.c 2 rfl (.c 2 rfl (.c 2 rfl (.c 2 rfl (.c 2 rfl (.c 2 rfl (.c 0 rfl (.c 0 rfl .n)))))))) ?_
  rintro ⟨seen, a, b⟩ ⟨hsn, ha, hb⟩
  dsimp only at hsn ha hb ⊢
  refine kSeq ?_
  refine kRegion rfl ?_
  refine lE rfl ?_
  refine eNext 6 rfl rfl (fun w hw => hw.blkAt 5 rfl) (fun hall => ?_) (fun j p hj hsj => ?_)
  · refine lV (yExtract rfl rfl) rfl rfl ?_
    refine lNil ?_
    refine kThen ?_
    refine kSeq ?_
    refine kIfF rfl ?_
    refine kExit ?_
    refine kThenX ?_
    refine kThenX ?_
    refine kInX ?_
    refine kThen ?_
    refine kSeq ?_
    refine kRegion rfl ?_
    refine lV (yIndexAr rfl rfl R96 (by omega) (by omega)) rfl rfl ?_
    refine lV (yFieldAddr rfl F86_2) rfl rfl ?_
    refine lV (yLoad1 rfl O4 (cOwn 7 rfl rfl)) rfl rfl ?_
    refine lV (yMove rfl) rfl rfl ?_
    refine splitB (t := 94) rfl (fun h94 => ?_) (fun h94 => ?_)
    · refine lGY rfl rfl rfl (oV (yIndexAr rfl rfl R96 (by omega) (by omega)) rfl ?_)
      refine lGY rfl rfl rfl (oV (yFieldAddr rfl F86_2) rfl ?_)
      refine lGY rfl rfl rfl (oV (yLoad1 rfl O4 (cOwn 7 rfl rfl)) rfl ?_)
      refine lV (yPickT rfl rfl) rfl rfl ?_
      refine splitB (t := 98) rfl (fun h98 => ?_) (fun h98 => ?_)
      · refine lV (yCall rfl (.c rfl (.c rfl .n)) C76 (fun w hw => need_ok 4 w)) rfl rfl ?_
        refine lNil ?_
        refine kThen ?_
        refine kSeq ?_
        refine kDrawE [(1, none), (2, none), (4, none), (5, none)] [] [0, 1, 2, 3, 4, 5] 3 hMix (by kernel_rfl) ?_
        refine .run rfl (yIndexAr rfl rfl R96 (by omega) (by omega)) rfl rfl ?_
        refine .run rfl (yLoadA (vs := [_, _, _]) rfl A86 (cOwn 7 rfl rfl)) rfl rfl ?_
        refine .run rfl (yCall rfl (.c rfl .n) C56 (fun w hw => span_any _ w)) rfl rfl ?_
        refine .run rfl (yIndexAr rfl rfl R96 (by omega) (by omega)) rfl rfl ?_
        refine .run rfl (yLoadA (vs := [_, _, _]) rfl A86 (cOwn 7 rfl rfl)) rfl rfl ?_
        refine .run rfl (yCall rfl (.c rfl .n) C56 (fun w hw => span_any _ w)) rfl rfl ?_
        refine .done ?_
        refine effStep 6 [] (by kernel_rfl) closedSt (hLeft [1, 2, 4, 5] (by kernel_rfl) (.c (fun _ _ hs => hs.ef) (.c (fun _ _ hs => hs.ef) (.c (fun _ _ hs => hs.ef) (.c (fun _ _ hs => hs.ef) .n))))) ?_
        refine .c ?_ .n
        refine effOne rfl (gNone rfl (fStoreL 2 rfl rfl rfl rfl K23 rfl (rfl))) ?_
        refine effStep 7 [] (by kernel_rfl) closedSt (hLeft [] (by kernel_rfl) .n) ?_
        refine .c ?_ .n
        refine effOne rfl (gNone rfl (fStoreL 1 rfl rfl rfl rfl K23 rfl (rfl))) ?_
        refine effStep 8 [] (by kernel_rfl) closedSt (hLeft [] (by kernel_rfl) .n) ?_
        refine .c ?_ .n
        refine effOne rfl (gNone rfl (fStoreL 0 rfl rfl rfl rfl K29 rfl (rfl))) ?_
        refine effDone closedSt (hLeft [] (by kernel_rfl) .n) (by kernel_rfl) ?_
        refine kThen ?_
        refine kRet ?_
        refine fRetC DFind C73 rfl (.cA (us := [_, _]) rfl A23 (cOwn 2 rfl rfl) (.cA (us := [_, _]) rfl A23 (cOwn 1 rfl rfl) (.c1 rfl O29 (cOwn 0 rfl rfl) .n))) (endRet ?_)
        have e1 := SeenS.all (G := findQ p false e) ha (scalesP_len p (knownP p)).symm hsn (fun i hi => hall i (by rw [esP_len]; exact hi))
        have e2 := SeenS.all (G := findQ p true n) hb (scalesP_len p (knownP p)).symm hsn (fun i hi => hall i (by rw [esP_len]; exact hi))
        subst e1 e2
        have hx : (findH p false e).some = true ∧ (findH p true n).some = true := ⟨h94, h98⟩
        simp only [packV, findE, if_neg (not_not_intro h), if_pos hx]
        rfl
      · refine lE rfl ?_
        refine eCallP rfl (.c rfl (.c rfl .n)) C76 (fun w hw => need_pan 4 w) ?_
        refine kThenP ?_
        have e1 := SeenS.all (G := findQ p false e) ha (scalesP_len p (knownP p)).symm hsn (fun i hi => hall i (by rw [esP_len]; exact hi))
        have e2 := SeenS.all (G := findQ p true n) hb (scalesP_len p (knownP p)).symm hsn (fun i hi => hall i (by rw [esP_len]; exact hi))
        refine fPanC 0 DFind C73 rfl rfl (.cA (us := [_, _]) rfl A23 (cOwn 2 rfl rfl) (.cA (us := [_, _]) rfl A23 (cOwn 1 rfl rfl) (.c1 rfl O29 (cOwn 0 rfl rfl) .n))) (endRet ?_)
        subst e1 e2
        have hx : ¬ ((findH p false e).some = true ∧ (findH p true n).some = true) := by
          unfold findH
          rw [h94]
          first | (rw [h98]; decide) | (simp only [Bool.false_eq_true, false_and, not_false_eq_true]; done)
        simp only [packV, findE, if_neg (not_not_intro h), if_neg hx]
    · refine lGN rfl rfl rfl rfl rfl ?_
      refine lGN rfl rfl rfl rfl rfl ?_
      refine lGN rfl rfl rfl rfl rfl ?_
      refine lV (yPickF rfl rfl) rfl rfl ?_
      refine lE rfl ?_
      refine eCallP rfl (.c rfl (.c rfl .n)) C76 (fun w hw => need_pan 4 w) ?_
      refine kThenP ?_
      have e1 := SeenS.all (G := findQ p false e) ha (scalesP_len p (knownP p)).symm hsn (fun i hi => hall i (by rw [esP_len]; exact hi))
      have e2 := SeenS.all (G := findQ p true n) hb (scalesP_len p (knownP p)).symm hsn (fun i hi => hall i (by rw [esP_len]; exact hi))
      refine fPanC 0 DFind C73 rfl rfl (.cA (us := [_, _]) rfl A23 (cOwn 2 rfl rfl) (.cA (us := [_, _]) rfl A23 (cOwn 1 rfl rfl) (.c1 rfl O29 (cOwn 0 rfl rfl) .n))) (endRet ?_)
      subst e1 e2
      have hx : ¬ ((findH p false e).some = true ∧ (findH p true n).some = true) := by
        unfold findH
        rw [h94]
        first | (rw [h98]; decide) | (simp only [Bool.false_eq_true, false_and, not_false_eq_true]; done)
      simp only [packV, findE, if_neg (not_not_intro h), if_neg hx]
  · obtain ⟨hjl, rfl⟩ := esP_get hj
    have heo := entry_ok hp hjl
    have hcb := corn_bd heo.2
    have hs1 := sc_pos hp hjl
    obtain ⟨F0, hF0⟩ : ∃ F, F = findQ p false e ((scalesP p (knownP p)).getD j 0) := ⟨_, rfl⟩
    obtain ⟨F1, hF1⟩ : ∃ F, F = findQ p true n ((scalesP p (knownP p)).getD j 0) := ⟨_, rfl⟩
    refine lV (yExtract rfl rfl) rfl rfl ?_
    refine lNil ?_
    refine kThen ?_
    refine kSeq ?_
    refine kIfT rfl ?_
    refine kSkip ?_
    refine kThen ?_
    refine kBlock ?_
    refine kSeq ?_
    refine kRegion rfl ?_
    refine lV (yEntry rfl hj (fun w hw => ⟨hw.blkAt 6 rfl, hw.blkAt 5 rfl⟩)) rfl rfl ?_
    refine lV (yExtract rfl rfl) rfl rfl ?_
    refine lV (yExtract rfl rfl) rfl rfl ?_
    refine lE rfl ?_
    refine eAlloc Z97 fun n13 => ?_
    refine lV (yAssign rfl) rfl rfl ?_
    refine lE rfl ?_
    refine eStoreL 0 rfl rfl rfl rfl K97 rfl (rfl) ?_
    refine lNil ?_
    refine kThen ?_
    refine kSeq ?_
    refine kRegion rfl ?_
    refine lV (yMove rfl) rfl rfl ?_
    refine lV (yMove rfl) rfl rfl ?_
    refine lE rfl ?_
    refine eBuildSlice (.c rfl (.c rfl .n)) (fun w => BS56_2_0_1 w) fun n43 => ?_
    refine lV (yLen rfl S56) rfl rfl ?_
    refine lV (yMove rfl) rfl rfl ?_
    refine lNil ?_
    refine kThen ?_
    refine kBlock ?_
    refine kLoopX (ι := Nat) (fun q => q ≤ 2) (fun q => [(45, i64 (q : Nat))]) [(0, _), (1, _), (2, _), (3, _), (6, _), (7, _), (8, _), (20, _), (9, _), (21, _), (22, _), (23, _), (24, _), (25, _), (26, _), (27, _), (28, _), (29, _), (30, _), (10, _), (11, _), (31, _), (32, _), (33, _), (34, _), (35, _), (36, _), (37, _), (38, _), (39, _), (40, _), (13, _), (12, _), (41, _), (42, _), (43, _), (44, _)] (fun q => []) (fun q => [(n11, blk (endC2 (cond (Nat.blt 0 q) (F0.foldl keepE a) a) (cond (Nat.blt 1 q) (F1.foldl keepE b) b)) 96)]) [(n43, _), (n13, _), (n8, _), (n7, _), (n6, _), (n3, _), (pb, _), (mb, _), (it, _)] (fun q => 2 - q) 0 (by omega) rfl (.c rfl .n) (.c rfl (.c rfl (.c rfl (.c rfl (.c rfl (.c rfl (.c rfl (.c rfl (.c rfl (.c rfl (.c rfl (.c rfl (.c rfl (.c rfl (.c rfl (.c rfl (.c rfl (.c rfl (.c rfl (.c rfl (.c rfl (.c rfl (.c rfl (.c rfl (.c rfl (.c rfl (.c rfl (.c rfl (.c rfl (.c rfl (.c rfl (.c rfl (.c rfl (.c rfl (.c rfl (.c rfl (.c rfl .n))))))))))))))))))))))))))))))))))))) (.c 0 rfl (.c 0 rfl (.c 0 rfl (.c 0 rfl (.c 0 rfl (.c 0 rfl (.c 0 rfl (.c 0 rfl (.c 0 rfl (.c 0 rfl .n)))))))))) ?_
    rintro q hq
    refine kSeq ?_
    refine kRegion rfl ?_
    refine lV (yLss rfl rfl) rfl rfl ?_
    refine lNil ?_
    refine kThen ?_
    refine kSeq ?_
    refine split (t := 46) rfl (fun h46 => ?_) (fun h46 => ?_)
    · refine kIfT rfl ?_
      refine kSkip ?_
      refine kThen ?_
      refine kSeq ?_
      refine kBlock ?_
      refine kSeq ?_
      by_cases hq0 : q = 0
      · subst hq0
        have hcc := hcb false
        refine kRegion rfl ?_
        refine lV (yMove rfl) rfl rfl ?_
        refine lV (yIndexSl rfl rfl S56 (by omega) (by omega)) rfl rfl ?_
        refine lV (yLoad1 rfl O3 (cOwn 0 rfl rfl)) rfl rfl ?_
        refine lV (yAssign rfl) rfl rfl ?_
        refine lV (yAssign rfl) rfl rfl ?_
        refine lNil ?_
        refine kThen ?_
        refine kSeq ?_
        refine kDrawE [(4, none), (11, none)] [] [0, 1, 2, 3, 4, 5, 6, 7, 8, 9, 10, 11, 12, 13, 14] 0 hMix (by kernel_rfl) ?_
        refine .run rfl (yMove rfl) rfl rfl ?_
        refine .run rfl (yMove rfl) rfl rfl ?_
        refine .run rfl (yIndexAr rfl rfl R97 (by omega) (by omega)) rfl rfl ?_
        refine .run rfl (yFieldAddr rfl F23_1) rfl rfl ?_
        refine .run rfl (yLoad1 rfl O3 (cOwn 1 rfl rfl)) rfl rfl ?_
        refine .run rfl (ySub rfl rfl (by omega)) rfl rfl ?_
        refine .run rfl (yMax rfl rfl) rfl rfl ?_
        refine .run rfl (yMove rfl) rfl rfl ?_
        refine .run rfl (yMove rfl) rfl rfl ?_
        refine .run rfl (yIndexAr rfl rfl R97 (by omega) (by omega)) rfl rfl ?_
        refine .run rfl (yFieldAddr rfl F23_0) rfl rfl ?_
        refine .run rfl (yLoad1 rfl O3 (cOwn 1 rfl rfl)) rfl rfl ?_
        refine .run rfl (ySub rfl rfl (by omega)) rfl rfl ?_
        refine .run rfl (yAssign rfl) rfl rfl ?_
        refine .run rfl (yAssign rfl) rfl rfl ?_
        refine .done ?_
        refine effDone closedSt (hLeft [4, 11] (by kernel_rfl) (.c (fun _ _ hs => hs.ef) (.c (fun _ _ hs => hs.ef) .n))) (by kernel_rfl) ?_
        refine kThen ?_
        refine kSeq ?_
        refine kSeq ?_
        refine kRegion rfl ?_
        refine lV (yMove rfl) rfl rfl ?_
        refine lV (yLss rfl rfl) rfl rfl ?_
        refine split (t := 64) rfl (fun h64 => ?_) (fun h64 => ?_)
        · obtain rfl : F0 = [] := by rw [hF0, findQ, findC, if_pos h64]
          refine lNil ?_
          refine kThen ?_
          refine kIfT rfl ?_
          refine kExit ?_
          refine kThenX ?_
          refine kInX ?_
          refine kThen ?_
          refine kRegion rfl ?_
          refine lV (yAdd rfl rfl (by omega)) rfl rfl ?_
          refine lV (yMove rfl) rfl rfl ?_
          refine lNil ?_
          exact kRoundX 1 (by omega) (by omega) rfl (.c rfl .n) (.c rfl (.c rfl (.c rfl (.c rfl (.c rfl (.c rfl (.c rfl (.c rfl (.c rfl (.c rfl (.c rfl (.c rfl (.c rfl (.c rfl (.c rfl (.c rfl (.c rfl (.c rfl (.c rfl (.c rfl (.c rfl (.c rfl (.c rfl (.c rfl (.c rfl (.c rfl (.c rfl (.c rfl (.c rfl (.c rfl (.c rfl (.c rfl (.c rfl (.c rfl (.c rfl (.c rfl (.c rfl .n))))))))))))))))))))))))))))))))))))) (.c 0 rfl (.c 0 rfl (.c 0 rfl (.c 0 rfl (.c 0 rfl (.c 0 rfl (.c 0 rfl (.c 0 rfl (.c 0 rfl (.c 0 rfl .n))))))))))
        · refine lNil ?_
          refine kThen ?_
          refine kIfF rfl ?_
          refine kSkip ?_
          refine kThen ?_
          refine kSeq ?_
          refine kDrawE [] [] [0, 1, 2, 3, 4, 5, 6, 7, 8, 9, 10, 11, 12, 13, 14, 15] 0 hMix (by kernel_rfl) ?_
          refine .run rfl (yMove rfl) rfl rfl ?_
          refine .run rfl (yMul rfl rfl (by omega)) rfl rfl ?_
          refine .run rfl (yMove rfl) rfl rfl ?_
          refine .run rfl (yAdd rfl rfl (by omega)) rfl rfl ?_
          refine .run rfl (ySub rfl rfl (by omega)) rfl rfl ?_
          refine .run rfl (yMove rfl) rfl rfl ?_
          refine .run rfl (yQuo rfl rfl (by omega) (by omega) (by omega)) rfl rfl ?_
          refine .run rfl (yMove rfl) rfl rfl ?_
          refine .run rfl (yAdd rfl rfl (by omega)) rfl rfl ?_
          refine .run rfl (yMul rfl rfl (by omega)) rfl rfl ?_
          refine .run rfl (ySub rfl rfl (by omega)) rfl rfl ?_
          refine .run rfl (yMove rfl) rfl rfl ?_
          refine .run rfl (yQuo rfl rfl (by omega) (by omega) (by omega)) rfl rfl ?_
          refine .run rfl (yMin rfl rfl) rfl rfl ?_
          refine .run rfl (yAssign rfl) rfl rfl ?_
          refine .run rfl (yAssign rfl) rfl rfl ?_
          refine .done ?_
          refine effDone closedSt (hLeft [] (by kernel_rfl) .n) (by kernel_rfl) ?_
          refine kThen ?_
          refine kSeq ?_
          refine kRegion rfl ?_
          refine lV (yMove rfl) rfl rfl ?_
          refine lV (yMove rfl) rfl rfl ?_
          refine lV (yLeq rfl rfl) rfl rfl ?_
          refine split (t := 81) rfl (fun h81 => ?_) (fun h81 => ?_)
          · obtain rfl : F0 = [_, _] := by rw [hF0, findQ, findC, if_neg h64, if_pos h81]
            refine lNil ?_
            refine kThen ?_
            refine kIfT rfl ?_
            refine kSeq ?_
            refine kRegion rfl ?_
            refine lV (yMove rfl) rfl rfl ?_
            refine lV (yIndexAr rfl rfl R96 (by omega) (by omega)) rfl rfl ?_
            refine lV (yMove rfl) rfl rfl ?_
            refine lE rfl ?_
            refine eCallW 9 rfl rfl (.c rfl (.c rfl .n)) C54 (fun w hw hb => keepA _ a b _ w hb) ?_
            refine lNil ?_
            refine kThen ?_
            refine kRegion rfl ?_
            refine lV (yMove rfl) rfl rfl ?_
            refine lV (yIndexAr rfl rfl R96 (by omega) (by omega)) rfl rfl ?_
            refine lV (yMove rfl) rfl rfl ?_
            refine lE rfl ?_
            refine eCallW 9 rfl rfl (.c rfl (.c rfl .n)) C54 (fun w hw hb => keepA _ _ b _ w hb) ?_
            refine lNil ?_
            refine kInN ?_
            refine kThen ?_
            refine kRegion rfl ?_
            refine lV (yAdd rfl rfl (by omega)) rfl rfl ?_
            refine lV (yMove rfl) rfl rfl ?_
            refine lNil ?_
            exact kRoundX 1 (by omega) (by omega) rfl (.c rfl .n) (.c rfl (.c rfl (.c rfl (.c rfl (.c rfl (.c rfl (.c rfl (.c rfl (.c rfl (.c rfl (.c rfl (.c rfl (.c rfl (.c rfl (.c rfl (.c rfl (.c rfl (.c rfl (.c rfl (.c rfl (.c rfl (.c rfl (.c rfl (.c rfl (.c rfl (.c rfl (.c rfl (.c rfl (.c rfl (.c rfl (.c rfl (.c rfl (.c rfl (.c rfl (.c rfl (.c rfl (.c rfl .n))))))))))))))))))))))))))))))))))))) (.c 0 rfl (.c 0 rfl (.c 0 rfl (.c 0 rfl (.c 0 rfl (.c 0 rfl (.c 0 rfl (.c 0 rfl (.c 0 rfl (.c 0 rfl .n))))))))))
          · obtain rfl : F0 = [] := by rw [hF0, findQ, findC, if_neg h64, if_neg h81]
            refine lNil ?_
            refine kThen ?_
            refine kIfF rfl ?_
            refine kSkip ?_
            refine kInN ?_
            refine kThen ?_
            refine kRegion rfl ?_
            refine lV (yAdd rfl rfl (by omega)) rfl rfl ?_
            refine lV (yMove rfl) rfl rfl ?_
            refine lNil ?_
            exact kRoundX 1 (by omega) (by omega) rfl (.c rfl .n) (.c rfl (.c rfl (.c rfl (.c rfl (.c rfl (.c rfl (.c rfl (.c rfl (.c rfl (.c rfl (.c rfl (.c rfl (.c rfl (.c rfl (.c rfl (.c rfl (.c rfl (.c rfl (.c rfl (.c rfl (.c rfl (.c rfl (.c rfl (.c rfl (.c rfl (.c rfl (.c rfl (.c rfl (.c rfl (.c rfl (.c rfl (.c rfl (.c rfl (.c rfl (.c rfl (.c rfl (.c rfl .n))))))))))))))))))))))))))))))))))))) (.c 0 rfl (.c 0 rfl (.c 0 rfl (.c 0 rfl (.c 0 rfl (.c 0 rfl (.c 0 rfl (.c 0 rfl (.c 0 rfl (.c 0 rfl .n))))))))))
      · obtain rfl : q = 1 := by omega
        have hcc := hcb true
        refine kRegion rfl ?_
        refine lV (yMove rfl) rfl rfl ?_
        refine lV (yIndexSl rfl rfl S56 (by omega) (by omega)) rfl rfl ?_
        refine lV (yLoad1 rfl O3 (cOwn 0 rfl rfl)) rfl rfl ?_
        refine lV (yAssign rfl) rfl rfl ?_
        refine lV (yAssign rfl) rfl rfl ?_
        refine lNil ?_
        refine kThen ?_
        refine kSeq ?_
        refine kDrawE [(4, none), (11, none)] [] [0, 1, 2, 3, 4, 5, 6, 7, 8, 9, 10, 11, 12, 13, 14] 0 hMix (by kernel_rfl) ?_
        refine .run rfl (yMove rfl) rfl rfl ?_
        refine .run rfl (yMove rfl) rfl rfl ?_
        refine .run rfl (yIndexAr rfl rfl R97 (by omega) (by omega)) rfl rfl ?_
        refine .run rfl (yFieldAddr rfl F23_1) rfl rfl ?_
        refine .run rfl (yLoad1 rfl O3 (cOwn 1 rfl rfl)) rfl rfl ?_
        refine .run rfl (ySub rfl rfl (by omega)) rfl rfl ?_
        refine .run rfl (yMax rfl rfl) rfl rfl ?_
        refine .run rfl (yMove rfl) rfl rfl ?_
        refine .run rfl (yMove rfl) rfl rfl ?_
        refine .run rfl (yIndexAr rfl rfl R97 (by omega) (by omega)) rfl rfl ?_
        refine .run rfl (yFieldAddr rfl F23_0) rfl rfl ?_
        refine .run rfl (yLoad1 rfl O3 (cOwn 1 rfl rfl)) rfl rfl ?_
        refine .run rfl (ySub rfl rfl (by omega)) rfl rfl ?_
        refine .run rfl (yAssign rfl) rfl rfl ?_
        refine .run rfl (yAssign rfl) rfl rfl ?_
        refine .done ?_
        refine effDone closedSt (hLeft [4, 11] (by kernel_rfl) (.c (fun _ _ hs => hs.ef) (.c (fun _ _ hs => hs.ef) .n))) (by kernel_rfl) ?_
        refine kThen ?_
        refine kSeq ?_
        refine kSeq ?_
        refine kRegion rfl ?_
        refine lV (yMove rfl) rfl rfl ?_
        refine lV (yLss rfl rfl) rfl rfl ?_
        refine split (t := 64) rfl (fun h64 => ?_) (fun h64 => ?_)
        · obtain rfl : F1 = [] := by rw [hF1, findQ, findC, if_pos h64]
          refine lNil ?_
          refine kThen ?_
          refine kIfT rfl ?_
          refine kExit ?_
          refine kThenX ?_
          refine kInX ?_
          refine kThen ?_
          refine kRegion rfl ?_
          refine lV (yAdd rfl rfl (by omega)) rfl rfl ?_
          refine lV (yMove rfl) rfl rfl ?_
          refine lNil ?_
          exact kRoundX 2 (by omega) (by omega) rfl (.c rfl .n) (.c rfl (.c rfl (.c rfl (.c rfl (.c rfl (.c rfl (.c rfl (.c rfl (.c rfl (.c rfl (.c rfl (.c rfl (.c rfl (.c rfl (.c rfl (.c rfl (.c rfl (.c rfl (.c rfl (.c rfl (.c rfl (.c rfl (.c rfl (.c rfl (.c rfl (.c rfl (.c rfl (.c rfl (.c rfl (.c rfl (.c rfl (.c rfl (.c rfl (.c rfl (.c rfl (.c rfl (.c rfl .n))))))))))))))))))))))))))))))))))))) (.c 0 rfl (.c 0 rfl (.c 0 rfl (.c 0 rfl (.c 0 rfl (.c 0 rfl (.c 0 rfl (.c 0 rfl (.c 0 rfl (.c 0 rfl .n))))))))))
        · refine lNil ?_
          refine kThen ?_
          refine kIfF rfl ?_
          refine kSkip ?_
          refine kThen ?_
          refine kSeq ?_
          refine kDrawE [] [] [0, 1, 2, 3, 4, 5, 6, 7, 8, 9, 10, 11, 12, 13, 14, 15] 0 hMix (by kernel_rfl) ?_
          refine .run rfl (yMove rfl) rfl rfl ?_
          refine .run rfl (yMul rfl rfl (by omega)) rfl rfl ?_
          refine .run rfl (yMove rfl) rfl rfl ?_
          refine .run rfl (yAdd rfl rfl (by omega)) rfl rfl ?_
          refine .run rfl (ySub rfl rfl (by omega)) rfl rfl ?_
          refine .run rfl (yMove rfl) rfl rfl ?_
          refine .run rfl (yQuo rfl rfl (by omega) (by omega) (by omega)) rfl rfl ?_
          refine .run rfl (yMove rfl) rfl rfl ?_
          refine .run rfl (yAdd rfl rfl (by omega)) rfl rfl ?_
          refine .run rfl (yMul rfl rfl (by omega)) rfl rfl ?_
          refine .run rfl (ySub rfl rfl (by omega)) rfl rfl ?_
          refine .run rfl (yMove rfl) rfl rfl ?_
          refine .run rfl (yQuo rfl rfl (by omega) (by omega) (by omega)) rfl rfl ?_
          refine .run rfl (yMin rfl rfl) rfl rfl ?_
          refine .run rfl (yAssign rfl) rfl rfl ?_
          refine .run rfl (yAssign rfl) rfl rfl ?_
          refine .done ?_
          refine effDone closedSt (hLeft [] (by kernel_rfl) .n) (by kernel_rfl) ?_
          refine kThen ?_
          refine kSeq ?_
          refine kRegion rfl ?_
          refine lV (yMove rfl) rfl rfl ?_
          refine lV (yMove rfl) rfl rfl ?_
          refine lV (yLeq rfl rfl) rfl rfl ?_
          refine split (t := 81) rfl (fun h81 => ?_) (fun h81 => ?_)
          · obtain rfl : F1 = [_, _] := by rw [hF1, findQ, findC, if_neg h64, if_pos h81]
            refine lNil ?_
            refine kThen ?_
            refine kIfT rfl ?_
            refine kSeq ?_
            refine kRegion rfl ?_
            refine lV (yMove rfl) rfl rfl ?_
            refine lV (yIndexAr rfl rfl R96 (by omega) (by omega)) rfl rfl ?_
            refine lV (yMove rfl) rfl rfl ?_
            refine lE rfl ?_
            refine eCallW 9 rfl rfl (.c rfl (.c rfl .n)) C54 (fun w hw hb => keepB _ _ b _ w hb) ?_
            refine lNil ?_
            refine kThen ?_
            refine kRegion rfl ?_
            refine lV (yMove rfl) rfl rfl ?_
            refine lV (yIndexAr rfl rfl R96 (by omega) (by omega)) rfl rfl ?_
            refine lV (yMove rfl) rfl rfl ?_
            refine lE rfl ?_
            refine eCallW 9 rfl rfl (.c rfl (.c rfl .n)) C54 (fun w hw hb => keepB _ _ _ _ w hb) ?_
            refine lNil ?_
            refine kInN ?_
            refine kThen ?_
            refine kRegion rfl ?_
            refine lV (yAdd rfl rfl (by omega)) rfl rfl ?_
            refine lV (yMove rfl) rfl rfl ?_
            refine lNil ?_
            exact kRoundX 2 (by omega) (by omega) rfl (.c rfl .n) (.c rfl (.c rfl (.c rfl (.c rfl (.c rfl (.c rfl (.c rfl (.c rfl (.c rfl (.c rfl (.c rfl (.c rfl (.c rfl (.c rfl (.c rfl (.c rfl (.c rfl (.c rfl (.c rfl (.c rfl (.c rfl (.c rfl (.c rfl (.c rfl (.c rfl (.c rfl (.c rfl (.c rfl (.c rfl (.c rfl (.c rfl (.c rfl (.c rfl (.c rfl (.c rfl (.c rfl (.c rfl .n))))))))))))))))))))))))))))))))))))) (.c 0 rfl (.c 0 rfl (.c 0 rfl (.c 0 rfl (.c 0 rfl (.c 0 rfl (.c 0 rfl (.c 0 rfl (.c 0 rfl (.c 0 rfl .n))))))))))
          · obtain rfl : F1 = [] := by rw [hF1, findQ, findC, if_neg h64, if_neg h81]
            refine lNil ?_
            refine kThen ?_
            refine kIfF rfl ?_
            refine kSkip ?_
            refine kInN ?_
            refine kThen ?_
            refine kRegion rfl ?_
            refine lV (yAdd rfl rfl (by omega)) rfl rfl ?_
            refine lV (yMove rfl) rfl rfl ?_
            refine lNil ?_
            exact kRoundX 2 (by omega) (by omega) rfl (.c rfl .n) (.c rfl (.c rfl (.c rfl (.c rfl (.c rfl (.c rfl (.c rfl (.c rfl (.c rfl (.c rfl (.c rfl (.c rfl (.c rfl (.c rfl (.c rfl (.c rfl (.c rfl (.c rfl (.c rfl (.c rfl (.c rfl (.c rfl (.c rfl (.c rfl (.c rfl (.c rfl (.c rfl (.c rfl (.c rfl (.c rfl (.c rfl (.c rfl (.c rfl (.c rfl (.c rfl (.c rfl (.c rfl .n))))))))))))))))))))))))))))))))))))) (.c 0 rfl (.c 0 rfl (.c 0 rfl (.c 0 rfl (.c 0 rfl (.c 0 rfl (.c 0 rfl (.c 0 rfl (.c 0 rfl (.c 0 rfl .n))))))))))
    · refine kIfF rfl ?_
      refine kExit ?_
      refine kThenX ?_
      refine kThenX ?_
      refine kInX ?_
      refine kInN ?_
      obtain rfl : q = 2 := by omega
      exact kRoundX (seen.push j, F0.foldl keepE a, F1.foldl keepE b) (⟨seen_push hsn hjl, by rw [hF0]; exact SeenS.push j ha, by rw [hF1]; exact SeenS.push j hb⟩) (leftN_push hjl hsj) rfl .n (.c rfl (.c rfl (.c rfl (.c rfl (.c rfl (.c rfl (.c rfl (.c rfl (.c rfl (.c rfl (.c rfl (.c rfl (.c rfl (.c rfl (.c rfl (.c rfl (.c rfl (.c rfl (.c rfl (.c rfl (.c rfl (.c rfl (.c rfl (.c rfl (.c rfl (.c rfl .n)))))))))))))))))))))))))) (.c 2 rfl (.c 2 rfl (.c 2 rfl (.c 2 rfl (.c 2 rfl (.c 2 rfl (.c 2 rfl (.c 2 rfl .n))))))))
theorem find_any (y : Option Addr × Nat) (p : Plt) (e n : Int) (w : World) (hm : InP w y p) : Calls Try.prog 24 [.agg (pltC y p).toArray, i64 e, i64 n].toArray w (Ret w (outC2 (findE p e n))) := by
  by_cases h : toldE p (isSkyB e && isSkyB n) = 0
  · exact find_ok y p e n w hm h
  · exact find_bad y p e n w hm h
end Go.Proofs.Ytlcdohhhhlhpmaa
namespace Go.Proofs.Ytlcdohhhhlhpmaa
open ZW

/-- How many binary places a number below 256 has. -/
def lenB (n : Nat) : Nat := if n = 0 then 0 else if n < 2 then 1 else if n < 4 then 2 else if n < 8 then 3 else if n < 16 then 4 else if n < 32 then 5 else if n < 64 then 6 else if n < 128 then 7 else 8
def lenT (n : Nat) : Nat := if n ≥ 256 then 8 + lenB (n / 2 ^ 8) else lenB n
theorem tab_of (s : ByteArray) (h : ((List.range 256).all fun k => ((s[k]?).getD 0).toNat == lenB k) = true) {k : Nat} (hk : k < 256) : Value.int .u8 (((s[k]?).getD 0).toNat : Nat) = .int .u8 ((lenB k : Nat) : Int) := by
  have := List.all_eq_true.1 h k (List.mem_range.2 hk)
  rw [beq_iff_eq] at this
  rw [this]
theorem lenB_le (n : Nat) : lenB n ≤ 8 := by unfold lenB; (repeat' split) <;> omega
theorem lenT_le : ∀ s, s < 1024 → lenT s ≤ 10 := by
  have h : ((List.range 1024).all fun s => Nat.ble (lenT s) 10) = true := by kernel_rfl
  intro s hs
  exact Nat.le_of_ble_eq_true (List.all_eq_true.1 h s (List.mem_range.2 hs))
theorem lenT_bit : ∀ s, s < 1024 → ∀ i, s.testBit i = true → i < lenT s := by
  have h : ((List.range 1024).all fun s => Nat.blt s (2 ^ lenT s)) = true := by kernel_rfl
  intro s hs i hi
  have h1 : s < 2 ^ lenT s := by
    have := List.all_eq_true.1 h s (List.mem_range.2 hs)
    exact Nat.le_of_ble_eq_true this
  rcases Nat.lt_or_ge i (lenT s) with h2 | h2
  · exact h2
  · have h3 : s < 2 ^ i := Nat.lt_of_lt_of_le h1 (Nat.pow_le_pow_right (by omega) h2)
    rw [Nat.testBit_lt_two_pow h3] at hi
    cases hi
theorem u8_in {n : Nat} (h : n < 256) : IntKind.u8.wrap (n : Int) = n := IntWalk.u8_in _ (by omega)
set_option maxRecDepth 100000 in
theorem len64_any (s : Nat) (w : World) (hs : s < 1024) : Calls Try.prog 131 [.int .u64 (s : Nat)].toArray w (Ret w (i64 (lenT s : Nat))) := by
  have hB := lenB_le s
  have hB2 := lenB_le (s / 2 ^ 8)
  have hq : s / 2 ^ 8 < 256 := by rw [show (2 : Nat) ^ 8 = 256 from rfl]; omega
  refine fEnter Try.func131 rfl Try.ntmps131 rfl ?_
  refine kSeq ?_
  refine kRegion rfl ?_
  refine lV (yAssign rfl) rfl rfl ?_
  refine lNil ?_
  refine kThen ?_
  refine kSeq ?_
  refine kSeq ?_
  refine kRegion rfl ?_
  refine lV (yMove rfl) rfl rfl ?_
  refine lV (yGeq rfl rfl) rfl rfl ?_
  refine knownN (t := 4) rfl (by omega) ?_
  refine lNil ?_
  refine kThen ?_
  refine kIfF rfl ?_
  refine kSkip ?_
  refine kThen ?_
  refine kSeq ?_
  refine kSeq ?_
  refine kRegion rfl ?_
  refine lV (yMove rfl) rfl rfl ?_
  refine lV (yGeq rfl rfl) rfl rfl ?_
  refine knownN (t := 8) rfl (by omega) ?_
  refine lNil ?_
  refine kThen ?_
  refine kIfF rfl ?_
  refine kSkip ?_
  refine kThen ?_
  refine kSeq ?_
  refine kSeq ?_
  refine kRegion rfl ?_
  refine lV (yMove rfl) rfl rfl ?_
  refine lV (yGeq rfl rfl) rfl rfl ?_
  refine split (t := 14) rfl (fun h14 => ?_) (fun h14 => ?_)
  · refine lNil ?_
    refine kThen ?_
    refine kIfT rfl ?_
    refine kSeq ?_
    refine kRegion rfl ?_
    refine lV (yMove rfl) rfl rfl ?_
    refine lV (yShr rfl rfl rfl (by omega)) rfl rfl ?_
    refine lV (yAssign rfl) rfl rfl ?_
    refine lNil ?_
    refine kThen ?_
    refine kRegion rfl ?_
    refine lV (yMove rfl) rfl rfl ?_
    refine lV (yAdd rfl rfl (by omega)) rfl rfl ?_
    refine lV (yAssign rfl) rfl rfl ?_
    refine lNil ?_
    refine kThen ?_
    refine kSeq ?_
    refine kRegion rfl ?_
    refine lV (yMove rfl) rfl rfl ?_
    refine lV (yMove rfl) rfl rfl ?_
    refine lV (yConvInt rfl U168 U5 (u8_in hq)) rfl rfl ?_
    refine lV (yIndexStr rfl rfl (by kernel_rfl) (by kernel_rfl) (hq)) rfl rfl ?_
    refine same (t := 22) (u := .int .u8 ((lenB (s / 2 ^ 8) : Nat) : Int)) rfl (tab_of _ (by kernel_rfl) (by first | exact hq | omega)) ?_
    refine lV (yConvInt rfl U5 U3 (conv_ok (by omega))) rfl rfl ?_
    refine lV (yAdd rfl rfl (by omega)) rfl rfl ?_
    refine lV (yAssign rfl) rfl rfl ?_
    refine lNil ?_
    refine kThen ?_
    refine kRet ?_
    refine fRet rfl (.t rfl .n) (endRet ?_)
    simp only [packV, lenT]
    rw [if_pos (by omega)]; congr 2
  · refine lNil ?_
    refine kThen ?_
    refine kIfF rfl ?_
    refine kSkip ?_
    refine kThen ?_
    refine kSeq ?_
    refine kRegion rfl ?_
    refine lV (yMove rfl) rfl rfl ?_
    refine lV (yMove rfl) rfl rfl ?_
    refine lV (yConvInt rfl U168 U5 (u8_in (by omega))) rfl rfl ?_
    refine lV (yIndexStr rfl rfl (by kernel_rfl) (by kernel_rfl) (by omega)) rfl rfl ?_
    refine same (t := 22) (u := .int .u8 ((lenB s : Nat) : Int)) rfl (tab_of _ (by kernel_rfl) (by first | exact hq | omega)) ?_
    refine lV (yConvInt rfl U5 U3 (conv_ok (by omega))) rfl rfl ?_
    refine lV (yAdd rfl rfl (by omega)) rfl rfl ?_
    refine lV (yAssign rfl) rfl rfl ?_
    refine lNil ?_
    refine kThen ?_
    refine kRet ?_
    refine fRet rfl (.t rfl .n) (endRet ?_)
    simp only [packV, lenT]
    rw [if_neg (by omega)]; congr 2; omega
set_option maxRecDepth 100000 in
theorem len_any (s : Nat) (w : World) (hs : s < 1024) : Calls Try.prog 114 [.int .u64 (s : Nat)].toArray w (Ret w (i64 (lenT s : Nat))) := by
  refine fEnter Try.func114 rfl Try.ntmps114 rfl ?_
  refine kSeq ?_
  refine kRegion rfl ?_
  refine lV (yAssign rfl) rfl rfl ?_
  refine lNil ?_
  refine kThen ?_
  refine kSeq ?_
  refine kIfF rfl ?_
  refine kSkip ?_
  refine kThen ?_
  refine kSeq ?_
  refine kRegion rfl ?_
  refine lV (yMove rfl) rfl rfl ?_
  refine lV (yCall rfl (.c rfl .n) C131 (fun w hw => len64_any s w hs)) rfl rfl ?_
  refine lV (yAssign rfl) rfl rfl ?_
  refine lNil ?_
  refine kThen ?_
  refine kRet ?_
  refine fRet rfl (.t rfl .n) (endRet ?_)
  rfl
end Go.Proofs.Ytlcdohhhhlhpmaa
namespace Go.Proofs.Ytlcdohhhhlhpmaa
open ZW

/-- How many there are in a set. -/
def popF : Nat → Nat → Nat
  | 0, _ => 0
  | f + 1, n => n % 2 + popF f (n / 2)
def popc (n : Nat) : Nat := popF 13 n
def oc1 (s : Nat) : Nat := (s / 2 ^ 1 &&& 6148914691236517205) + (s &&& 6148914691236517205)
def oc2 (s : Nat) : Nat := (s / 2 ^ 2 &&& 3689348814741910323) + (s &&& 3689348814741910323)
def oc3 (s : Nat) : Nat := (s / 2 ^ 4 + s) &&& 1085102592571150095
def oc4 (s : Nat) : Nat := s + s / 2 ^ 8
def oc5 (s : Nat) : Nat := s + s / 2 ^ 16
def oc6 (s : Nat) : Nat := s + s / 2 ^ 32
theorem oc_popc : ∀ s, s < 8192 → (oc6 (oc5 (oc4 (oc3 (oc2 (oc1 s))))) &&& 127) = popF 13 s := by
  have h : ((List.range 8192).all fun s => (oc6 (oc5 (oc4 (oc3 (oc2 (oc1 s))))) &&& 127) == popF 13 s) = true := by kernel_rfl
  intro s hs
  simpa using List.all_eq_true.1 h s (List.mem_range.2 hs)
theorem oc1_lt {s n : Nat} (h : s < n) : oc1 s < 2 * n := by
  have h1 := Nat.and_le_left (n := s / 2 ^ 1) (m := 6148914691236517205)
  have h2 := Nat.and_le_left (n := s) (m := 6148914691236517205)
  unfold oc1; omega
theorem oc2_lt {s n : Nat} (h : s < n) : oc2 s < 2 * n := by
  have h1 := Nat.and_le_left (n := s / 2 ^ 2) (m := 3689348814741910323)
  have h2 := Nat.and_le_left (n := s) (m := 3689348814741910323)
  unfold oc2; omega
theorem oc3_lt {s n : Nat} (h : s < n) : oc3 s < 2 * n := by
  have h1 := Nat.and_le_left (n := s / 2 ^ 4 + s) (m := 1085102592571150095)
  unfold oc3; omega

set_option maxRecDepth 100000 in
theorem ones64_any (s : Nat) (w : World) (hs : s < 8192) : Calls Try.prog 133 [.int .u64 (s : Nat)].toArray w (Ret w (i64 (popF 13 s : Nat))) := by
  have h1 := oc1_lt hs
  have h2 := oc2_lt h1
  have h3 := oc3_lt h2
  have h4 : oc4 (oc3 (oc2 (oc1 s))) < 200000 := by unfold oc4; omega
  have h5 : oc5 (oc4 (oc3 (oc2 (oc1 s)))) < 400000 := by unfold oc5; omega
  have h6 : oc6 (oc5 (oc4 (oc3 (oc2 (oc1 s))))) < 800000 := by unfold oc6; omega
  have hc := oc_popc s hs
  have e1 : oc1 s = _ := rfl
  have e2 : ∀ s, oc2 s = _ := fun _ => rfl
  have q1 := Nat.and_le_left (n := s / 2 ^ 1) (m := 6148914691236517205)
  have q2 := Nat.and_le_left (n := s) (m := 6148914691236517205)
  have q3 := Nat.and_le_left (n := oc1 s / 2 ^ 2) (m := 3689348814741910323)
  have q4 := Nat.and_le_left (n := oc1 s) (m := 3689348814741910323)
  refine fEnter Try.func133 rfl Try.ntmps133 rfl ?_
  refine kSeq ?_
  refine kRegion rfl ?_
  refine lV (yAssign rfl) rfl rfl ?_
  refine lNil ?_
  refine kThen ?_
  refine kSeq ?_
  refine kRegion rfl ?_
  refine lV (yMove rfl) rfl rfl ?_
  refine lV (yShr (b := 1) rfl rfl rfl (by omega)) rfl rfl ?_
  refine lV (yAnd (b := 6148914691236517205) rfl rfl rfl (by omega) (by omega)) rfl rfl ?_
  refine lV (yMove rfl) rfl rfl ?_
  refine lV (yAnd (b := 6148914691236517205) rfl rfl rfl (by omega) (by omega)) rfl rfl ?_
  refine lV (yAddN  rfl rfl rfl (by omega)) rfl rfl ?_
  refine same (t := 8) (u := .int .u64 ((oc1 s : Nat) : Int)) rfl (rfl) ?_
  refine lV (yAssign rfl) rfl rfl ?_
  refine lNil ?_
  refine kThen ?_
  refine kSeq ?_
  refine kRegion rfl ?_
  refine lV (yMove rfl) rfl rfl ?_
  refine lV (yShr (b := 2) rfl rfl rfl (by omega)) rfl rfl ?_
  refine lV (yAnd (b := 3689348814741910323) rfl rfl rfl (by omega) (by omega)) rfl rfl ?_
  refine lV (yMove rfl) rfl rfl ?_
  refine lV (yAnd (b := 3689348814741910323) rfl rfl rfl (by omega) (by omega)) rfl rfl ?_
  refine lV (yAddN  rfl rfl rfl (by omega)) rfl rfl ?_
  refine same (t := 14) (u := .int .u64 ((oc2 (oc1 s) : Nat) : Int)) rfl (rfl) ?_
  refine lV (yAssign rfl) rfl rfl ?_
  refine lNil ?_
  refine kThen ?_
  refine kSeq ?_
  refine kRegion rfl ?_
  refine lV (yMove rfl) rfl rfl ?_
  refine lV (yShr (b := 4) rfl rfl rfl (by omega)) rfl rfl ?_
  refine lV (yMove rfl) rfl rfl ?_
  refine lV (yAddN  rfl rfl rfl (by omega)) rfl rfl ?_
  refine lV (yAnd (b := 1085102592571150095) rfl rfl rfl (by omega) (by omega)) rfl rfl ?_
  refine same (t := 19) (u := .int .u64 ((oc3 (oc2 (oc1 s)) : Nat) : Int)) rfl (rfl) ?_
  refine lV (yAssign rfl) rfl rfl ?_
  refine lNil ?_
  refine kThen ?_
  refine kSeq ?_
  refine kRegion rfl ?_
  refine lV (yMove rfl) rfl rfl ?_
  refine lV (yMove rfl) rfl rfl ?_
  refine lV (yShr (b := 8) rfl rfl rfl (by omega)) rfl rfl ?_
  refine lV (yAddN  rfl rfl rfl (by omega)) rfl rfl ?_
  refine same (t := 23) (u := .int .u64 ((oc4 (oc3 (oc2 (oc1 s))) : Nat) : Int)) rfl (rfl) ?_
  refine lV (yAssign rfl) rfl rfl ?_
  refine lNil ?_
  refine kThen ?_
  refine kSeq ?_
  refine kRegion rfl ?_
  refine lV (yMove rfl) rfl rfl ?_
  refine lV (yMove rfl) rfl rfl ?_
  refine lV (yShr (b := 16) rfl rfl rfl (by omega)) rfl rfl ?_
  refine lV (yAddN  rfl rfl rfl (by omega)) rfl rfl ?_
  refine same (t := 27) (u := .int .u64 ((oc5 (oc4 (oc3 (oc2 (oc1 s)))) : Nat) : Int)) rfl (rfl) ?_
  refine lV (yAssign rfl) rfl rfl ?_
  refine lNil ?_
  refine kThen ?_
  refine kSeq ?_
  refine kRegion rfl ?_
  refine lV (yMove rfl) rfl rfl ?_
  refine lV (yMove rfl) rfl rfl ?_
  refine lV (yShr (b := 32) rfl rfl rfl (by omega)) rfl rfl ?_
  refine lV (yAddN  rfl rfl rfl (by omega)) rfl rfl ?_
  refine same (t := 31) (u := .int .u64 ((oc6 (oc5 (oc4 (oc3 (oc2 (oc1 s))))) : Nat) : Int)) rfl (rfl) ?_
  refine lV (yAssign rfl) rfl rfl ?_
  refine lNil ?_
  refine kThen ?_
  refine kSeq ?_
  refine kRegion rfl ?_
  refine lV (yMove rfl) rfl rfl ?_
  refine lV (yConvInt rfl U168 U3 (conv_ok (by omega))) rfl rfl ?_
  refine lV (yAnd (b := 127) rfl rfl rfl (by omega) (by omega)) rfl rfl ?_
  refine lV (yAssign rfl) rfl rfl ?_
  refine lNil ?_
  refine kThen ?_
  refine kRet ?_
  refine fRet rfl (.t rfl .n) (endRet ?_)
  simp only [packV]; rw [hc]
set_option maxRecDepth 100000 in
theorem ones_any (s : Nat) (w : World) (hs : s < 8192) : Calls Try.prog 115 [.int .u64 (s : Nat)].toArray w (Ret w (i64 (popF 13 s : Nat))) := by
  refine fEnter Try.func115 rfl Try.ntmps115 rfl ?_
  refine kSeq ?_
  refine kRegion rfl ?_
  refine lV (yAssign rfl) rfl rfl ?_
  refine lNil ?_
  refine kThen ?_
  refine kSeq ?_
  refine kIfF rfl ?_
  refine kSkip ?_
  refine kThen ?_
  refine kSeq ?_
  refine kRegion rfl ?_
  refine lV (yMove rfl) rfl rfl ?_
  refine lV (yCall rfl (.c rfl .n) C133 (fun w hw => ones64_any s w hs)) rfl rfl ?_
  refine lV (yAssign rfl) rfl rfl ?_
  refine lNil ?_
  refine kThen ?_
  refine kRet ?_
  refine fRet rfl (.t rfl .n) (endRet ?_)
  rfl


theorem Eff.lessL {w w' : World} {A B L : Heap} (h : Eff w (A ++ B) L w') (hb : ∀ p ∈ B, w.heap[p.1]? = some p.2) : Eff w A L w' := by
  have hnd := h.nd
  simp only [List.map_append, List.nodup_append] at hnd
  refine ⟨h.os, h.tape, h.output, h.size, fun k hk hA => ?_, fun p hp => h.own p (by rcases List.mem_append.1 hp with hp | hp <;> simp [hp]), h.new, fun p hp => h.old p (by simp [hp]), ?_⟩
  · by_cases hm : ∃ p ∈ B, p.1 = k
    · obtain ⟨p, hp, rfl⟩ := hm
      rw [h.own p (by simp [hp]), hb p hp]
    · refine h.frame k hk fun p hp e => ?_
      rcases List.mem_append.1 hp with hp | hp
      · exact hA p hp e
      · exact hm ⟨p, hp, e⟩
  · simp only [List.map_append, List.nodup_append]
    exact ⟨hnd.1.1, hnd.2.1, fun a ha b hb => hnd.2.2 a (by simp [List.mem_append, ha]) b hb⟩
/-- One set more, if it is less and something is so of it. -/
def bestP (isB : Nat → Bool) (s b : Nat) : Nat := if (b = 0 ∨ s < b) ∧ isB s = true then s else b
/-- All sets with so many stars more, from one on. -/
def onP (isB : Nat → Bool) (stars : Nat) : Nat → Nat → Nat → Nat → Nat
  | 0, _, s, b => bestP isB s b
  | m + 1, fr, s, b => (List.range (lenT stars)).foldl (fun b i => if fr ≤ i ∧ stars.testBit i = true then onP isB stars m (i + 1) (s ||| 1 * 2 ^ i) b else b) b
def onT (isB : Nat → Bool) (stars m fr s b n : Nat) : Nat := (List.range n).foldl (fun b i => if fr ≤ i ∧ stars.testBit i = true then onP isB stars m (i + 1) (s ||| 1 * 2 ^ i) b else b) b
theorem onT_succ (isB : Nat → Bool) (stars m fr s b n : Nat) : onT isB stars m fr s b (n + 1) = if fr ≤ n ∧ stars.testBit n = true then onP isB stars m (n + 1) (s ||| 1 * 2 ^ n) (onT isB stars m fr s b n) else onT isB stars m fr s b n := range_foldl_succ _ _ _
theorem onT_from (isB : Nat → Bool) (stars m fr s b : Nat) : ∀ n, n ≤ fr → onT isB stars m fr s b n = b
  | 0, _ => rfl
  | n + 1, h => by rw [onT_succ, if_neg (by omega), onT_from isB stars m fr s b n (by omega)]
def subS (s t : Nat) : Prop := ∀ i, s.testBit i = true → t.testBit i = true
theorem subS_lt {s t : Nat} (h : subS s t) (ht : t < 1024) : s < 1024 := by
  refine Nat.lt_pow_two_of_testBit (n := 10) s fun i hi => ?_
  cases hb : s.testBit i with
  | false => rfl
  | true =>
    have := h i hb
    rw [Nat.testBit_lt_two_pow (Nat.lt_of_lt_of_le (show t < 2 ^ 10 from ht) (Nat.pow_le_pow_right (by omega) hi))] at this
    cases this
theorem subS_or {s t i : Nat} (h : subS s t) (hi : t.testBit i = true) : subS (s ||| 1 * 2 ^ i) t := fun k hk => by
  rw [Nat.testBit_or, Bool.or_eq_true, Nat.one_mul, Nat.testBit_two_pow] at hk
  rcases hk with hk | hk
  · exact h k hk
  · have : i = k := by simpa using hk
    exact this ▸ hi
theorem bestP_lt {isB : Nat → Bool} {s b : Nat} (hs : s < 1024) (hb : b < 1024) : bestP isB s b < 1024 := by unfold bestP; split <;> omega
theorem onP_lt (isB : Nat → Bool) (stars : Nat) (ht : stars < 1024) : ∀ m fr s b, subS s stars → b < 1024 → onP isB stars m fr s b < 1024
  | 0, _, s, b, hs, hb => bestP_lt (subS_lt hs ht) hb
  | m + 1, fr, s, b, hs, hb => by
    have h : ∀ n, onT isB stars m fr s b n < 1024 := by
      intro n
      induction n with
      | zero => exact hb
      | succ n ih =>
        rw [onT_succ]
        split
        · rename_i h; exact onP_lt isB stars ht m _ _ _ (subS_or hs h.2) ih
        · exact ih
    exact h _

theorem onT_lt (isB : Nat → Bool) (stars : Nat) (ht : stars < 1024) (m fr s b n : Nat) (hs : subS s stars) (hb : b < 1024) : onT isB stars m fr s b n < 1024 := by
  induction n with
  | zero => exact hb
  | succ n ih =>
    rw [onT_succ]
    split
    · rename_i h; exact onP_lt isB stars ht m _ _ _ (subS_or hs h.2) ih
    · exact ih
theorem bit1_iff (s i : Nat) : (((s / 2 ^ i &&& 1 : Nat) : Int) = 1) ↔ s.testBit i = true := by
  rw [Nat.testBit_eq_decide_div_mod_eq, decide_eq_true_eq, Nat.and_one_is_mod]
  omega
theorem Eff.selfM {W w : World} {M L : Heap} (h : Eff W M L w) : Eff w M [] w := by
  have h2 := h.nd
  rw [List.map_append, List.nodup_append] at h2
  exact ⟨rfl, rfl, rfl, Nat.le_refl _, fun _ _ _ => rfl, fun p hp => h.own p (by simp at hp; simp [hp]), fun p hp => by simp at hp, fun p hp => h.lt (by simp [hp]), by simpa using h2.1⟩
set_option maxRecDepth 100000 in
set_option maxHeartbeats 4000000 in
theorem on_any (F : FuncId) (caps : List Value) (hF : callT Try.prog F = true) (isB : Nat → Bool) (stars : Nat) (ht : stars < 1024) (bn isn sn fn : Nat) : ∀ (m fr s b : Nat) (W : World), m ≤ 10 → fr ≤ 10 → subS s stars → b < 1024 →
    Eff W [(bn, blk [.int .u64 (b : Nat)] 114), (isn, blk [.func (.func F) [].toArray caps.toArray] 112), (sn, blk [.int .u64 (stars : Nat)] 114), (fn, blk [.func (.func 113) [].toArray [.pointer (some ⟨bn, 0, none⟩), .pointer (some ⟨isn, 0, none⟩), .pointer (some ⟨sn, 0, none⟩), .pointer (some ⟨fn, 0, none⟩)].toArray] 142)] [] W →
    (∀ w o L, Eff W [(bn, o)] L w → ∀ s, subS s stars → Calls Try.prog F ([Value.int .u64 (s : Nat)] ++ caps).toArray w (Ret w (.bool (isB s)))) →
    Calls Try.prog 113 [.int .u64 (s : Nat), i64 (m : Nat), i64 (fr : Nat), .pointer (some ⟨bn, 0, none⟩), .pointer (some ⟨isn, 0, none⟩), .pointer (some ⟨sn, 0, none⟩), .pointer (some ⟨fn, 0, none⟩)].toArray W (Wr W bn (blk [.int .u64 ((onP isB stars m fr s b : Nat) : Int)] 114) (.tuple #[])) := by
  intro m
  induction m with
  | zero =>
    intro fr s b W hm hfr hs hb hE hI
    have hlt := subS_lt hs ht
    have hr : ∀ p ∈ [(isn, blk [.func (.func F) [].toArray caps.toArray] 112), (sn, blk [.int .u64 (stars : Nat)] 114), (fn, blk [.func (.func 113) [].toArray [.pointer (some ⟨bn, 0, none⟩), .pointer (some ⟨isn, 0, none⟩), .pointer (some ⟨sn, 0, none⟩), .pointer (some ⟨fn, 0, none⟩)].toArray] 142)], W.heap[p.1]? = some p.2 := fun p hp => hE.own p (by simp only [List.append_nil]; exact List.mem_cons_of_mem _ hp)
    refine fEnterM hE Try.func113 rfl Try.ntmps113 rfl ?_
    refine kSeq ?_
    refine kSeq ?_
    refine kRegion rfl ?_
    refine lV (yMove rfl) rfl rfl ?_
    refine lV (yEql rfl rfl) rfl rfl ?_
    refine known (t := 12) rfl (by decide) ?_
    refine lNil ?_
    refine kThen ?_
    refine kIfT rfl ?_
    refine kSeq ?_
    refine kSeq ?_
    refine kRegion rfl ?_
    refine lV (yLoad1 rfl O114 (cOwn 0 rfl rfl)) rfl rfl ?_
    refine lV (yEql rfl rfl) rfl rfl ?_
    refine lV (yMove rfl) rfl rfl ?_
    refine split (t := 15) rfl (fun h15 => ?_) (fun h15 => ?_)
    · refine lGN rfl rfl rfl rfl rfl ?_
      refine lGN rfl rfl rfl rfl rfl ?_
      refine lGN rfl rfl rfl rfl rfl ?_
      refine lV (yPickT rfl rfl) rfl rfl ?_
      refine lV (yMove rfl) rfl rfl ?_
      refine lGY rfl rfl rfl (oV (yLoad1 rfl O112 (cOwn 1 rfl rfl)) rfl ?_)
      refine lGY rfl rfl rfl (oV (yMove rfl) rfl ?_)
      refine lGY rfl rfl rfl (oV (yCall (us := []) (cs := caps) rfl (.c rfl .n) hF (fun w' hw => hI w' _ _ (Eff.lessL (A := [_]) (B := [_, _, _]) hw hr) s hs)) rfl ?_)
      refine lV (yPickT rfl rfl) rfl rfl ?_
      refine lNil ?_
      refine kThen ?_
      refine splitB (t := 24) rfl (fun h24 => ?_) (fun h24 => ?_)
      · refine kIfT rfl ?_
        refine kRegion rfl ?_
        refine lV (yMove rfl) rfl rfl ?_
        refine lE rfl ?_
        refine eStoreM 0 rfl rfl rfl rfl K114 rfl (rfl) ?_
        refine lNil ?_
        refine kThen ?_
        refine kRet ?_
        refine kThenR ?_
        refine fRet rfl .n ?_
        first
        | exact fun w' hw' => ⟨rfl, by
            rw [show onP isB stars 0 fr s b = s from by unfold onP bestP; rw [if_pos ⟨by omega, h24⟩]]
            exact (Eff.lessL (A := [_]) (B := [_, _, _]) hw' hr).sub .n⟩
        | exact fun w' hw' => ⟨rfl, by
            rw [show onP isB stars 0 fr s b = b from by
              unfold onP bestP
              rw [if_neg]
              rintro ⟨h1, h2⟩
              first | omega | (rw [h24] at h2; cases h2)]
            exact (Eff.lessL (A := [_]) (B := [_, _, _]) hw' hr).sub .n⟩
      · refine kIfF rfl ?_
        refine kSkip ?_
        refine kThen ?_
        refine kRet ?_
        refine kThenR ?_
        refine fRet rfl .n ?_
        first
        | exact fun w' hw' => ⟨rfl, by
            rw [show onP isB stars 0 fr s b = s from by unfold onP bestP; rw [if_pos ⟨by omega, h24⟩]]
            exact (Eff.lessL (A := [_]) (B := [_, _, _]) hw' hr).sub .n⟩
        | exact fun w' hw' => ⟨rfl, by
            rw [show onP isB stars 0 fr s b = b from by
              unfold onP bestP
              rw [if_neg]
              rintro ⟨h1, h2⟩
              first | omega | (rw [h24] at h2; cases h2)]
            exact (Eff.lessL (A := [_]) (B := [_, _, _]) hw' hr).sub .n⟩
    · refine lGY rfl rfl rfl (oV (yMove rfl) rfl ?_)
      refine lGY rfl rfl rfl (oV (yLoad1 rfl O114 (cOwn 0 rfl rfl)) rfl ?_)
      refine lGY rfl rfl rfl (oV (yLss rfl rfl) rfl ?_)
      refine lV (yPickF rfl rfl) rfl rfl ?_
      refine lV (yMove rfl) rfl rfl ?_
      refine split (t := 20) rfl (fun h20 => ?_) (fun h20 => ?_)
      · refine lGY rfl rfl rfl (oV (yLoad1 rfl O112 (cOwn 1 rfl rfl)) rfl ?_)
        refine lGY rfl rfl rfl (oV (yMove rfl) rfl ?_)
        refine lGY rfl rfl rfl (oV (yCall (us := []) (cs := caps) rfl (.c rfl .n) hF (fun w' hw => hI w' _ _ (Eff.lessL (A := [_]) (B := [_, _, _]) hw hr) s hs)) rfl ?_)
        refine lV (yPickT rfl rfl) rfl rfl ?_
        refine lNil ?_
        refine kThen ?_
        refine splitB (t := 24) rfl (fun h24 => ?_) (fun h24 => ?_)
        · refine kIfT rfl ?_
          refine kRegion rfl ?_
          refine lV (yMove rfl) rfl rfl ?_
          refine lE rfl ?_
          refine eStoreM 0 rfl rfl rfl rfl K114 rfl (rfl) ?_
          refine lNil ?_
          refine kThen ?_
          refine kRet ?_
          refine kThenR ?_
          refine fRet rfl .n ?_
          first
          | exact fun w' hw' => ⟨rfl, by
              rw [show onP isB stars 0 fr s b = s from by unfold onP bestP; rw [if_pos ⟨by omega, h24⟩]]
              exact (Eff.lessL (A := [_]) (B := [_, _, _]) hw' hr).sub .n⟩
          | exact fun w' hw' => ⟨rfl, by
              rw [show onP isB stars 0 fr s b = b from by
                unfold onP bestP
                rw [if_neg]
                rintro ⟨h1, h2⟩
                first | omega | (rw [h24] at h2; cases h2)]
              exact (Eff.lessL (A := [_]) (B := [_, _, _]) hw' hr).sub .n⟩
        · refine kIfF rfl ?_
          refine kSkip ?_
          refine kThen ?_
          refine kRet ?_
          refine kThenR ?_
          refine fRet rfl .n ?_
          first
          | exact fun w' hw' => ⟨rfl, by
              rw [show onP isB stars 0 fr s b = s from by unfold onP bestP; rw [if_pos ⟨by omega, h24⟩]]
              exact (Eff.lessL (A := [_]) (B := [_, _, _]) hw' hr).sub .n⟩
          | exact fun w' hw' => ⟨rfl, by
              rw [show onP isB stars 0 fr s b = b from by
                unfold onP bestP
                rw [if_neg]
                rintro ⟨h1, h2⟩
                first | omega | (rw [h24] at h2; cases h2)]
              exact (Eff.lessL (A := [_]) (B := [_, _, _]) hw' hr).sub .n⟩
      · refine lGN rfl rfl rfl rfl rfl ?_
        refine lGN rfl rfl rfl rfl rfl ?_
        refine lGN rfl rfl rfl rfl rfl ?_
        refine lV (yPickF rfl rfl) rfl rfl ?_
        refine lNil ?_
        refine kThen ?_
        refine kIfF rfl ?_
        refine kSkip ?_
        refine kThen ?_
        refine kRet ?_
        refine kThenR ?_
        refine fRet rfl .n ?_
        first
        | exact fun w' hw' => ⟨rfl, by
            rw [show onP isB stars 0 fr s b = s from by unfold onP bestP; rw [if_pos ⟨by omega, h24⟩]]
            exact (Eff.lessL (A := [_]) (B := [_, _, _]) hw' hr).sub .n⟩
        | exact fun w' hw' => ⟨rfl, by
            rw [show onP isB stars 0 fr s b = b from by
              unfold onP bestP
              rw [if_neg]
              rintro ⟨h1, h2⟩
              first | omega | (rw [h24] at h2; cases h2)]
            exact (Eff.lessL (A := [_]) (B := [_, _, _]) hw' hr).sub .n⟩
  | succ m ih =>
    intro fr s b W hm hfr hs hb0 hE hI
    have hlt := subS_lt hs ht
    have hlen := lenT_le stars ht
    have hr : ∀ p ∈ [(isn, blk [.func (.func F) [].toArray caps.toArray] 112), (sn, blk [.int .u64 (stars : Nat)] 114), (fn, blk [.func (.func 113) [].toArray [.pointer (some ⟨bn, 0, none⟩), .pointer (some ⟨isn, 0, none⟩), .pointer (some ⟨sn, 0, none⟩), .pointer (some ⟨fn, 0, none⟩)].toArray] 142)], W.heap[p.1]? = some p.2 := fun p hp => hE.own p (by simp only [List.append_nil]; exact List.mem_cons_of_mem _ hp)
    refine fEnterM hE Try.func113 rfl Try.ntmps113 rfl ?_
    refine kSeq ?_
    refine kSeq ?_
    refine kRegion rfl ?_
    refine lV (yMove rfl) rfl rfl ?_
    refine lV (yEql rfl rfl) rfl rfl ?_
    refine knownN (t := 12) rfl (by omega) ?_
    refine lNil ?_
    refine kThen ?_
    refine kIfF rfl ?_
    refine kSkip ?_
    refine kThen ?_
    refine kSeq ?_
    refine kRegion rfl ?_
    refine lV (yMove rfl) rfl rfl ?_
    refine lV (yAssign rfl) rfl rfl ?_
    refine lNil ?_
    refine kThen ?_
    refine kBlock ?_
    refine kLoopX (ι := Nat) (fun i => (i = fr ∨ i ≤ lenT stars) ∧ fr ≤ i) (fun i => [(10, i64 (i : Nat))]) [(0, _), (1, _), (2, _), (3, _), (4, _), (5, _), (6, _), (11, _), (12, _), (26, _)] (fun i => (bn, blk [.int .u64 ((onT isB stars m fr s b i : Nat) : Int)] 114) :: [(isn, blk [.func (.func F) [].toArray caps.toArray] 112), (sn, blk [.int .u64 (stars : Nat)] 114), (fn, blk [.func (.func 113) [].toArray [.pointer (some ⟨bn, 0, none⟩), .pointer (some ⟨isn, 0, none⟩), .pointer (some ⟨sn, 0, none⟩), .pointer (some ⟨fn, 0, none⟩)].toArray] 142)]) (fun i => []) [] (fun i => lenT stars - i) fr (⟨.inl rfl, Nat.le_refl _⟩) (by rw [onT_from isB stars m fr s b fr (Nat.le_refl _)]) (.c rfl .n) (.c rfl (.c rfl (.c rfl (.c rfl (.c rfl (.c rfl (.c rfl (.c rfl (.c rfl (.c rfl .n)))))))))) .n ?_
    rintro i ⟨hi, hfi⟩
    refine kSeq ?_
    refine kSeq ?_
    refine kRegion rfl ?_
    refine lV (yMove rfl) rfl rfl ?_
    refine lV (yLoad1 rfl O114 (cOwn 2 rfl rfl)) rfl rfl ?_
    refine lV (yCall rfl (.c rfl .n) C114 (fun w hw => len_any stars w ht)) rfl rfl ?_
    refine lV (yLss rfl rfl) rfl rfl ?_
    refine lNil ?_
    refine kThen ?_
    refine split (t := 30) rfl (fun h30 => ?_) (fun h30 => ?_)
    · refine kIfT rfl ?_
      refine kSkip ?_
      refine kThen ?_
      refine kSeq ?_
      refine kBlock ?_
      refine kSeq ?_
      refine kRegion rfl ?_
      refine lV (yLoad1 rfl O114 (cOwn 2 rfl rfl)) rfl rfl ?_
      refine lV (yMove rfl) rfl rfl ?_
      refine lV (yShr rfl rfl rfl (by omega)) rfl rfl ?_
      refine lV (yAnd (b := 1) rfl rfl rfl (by have := Nat.div_le_self stars (2 ^ i); omega) (by have := Nat.div_le_self stars (2 ^ i); omega)) rfl rfl ?_
      refine lV (yEql rfl rfl) rfl rfl ?_
      refine split (t := 37) rfl (fun h37 => ?_) (fun h37 => ?_)
      · have hbt := (bit1_iff stars i).1 h37
        have hp2 : 2 ^ i ≤ 2 ^ 10 := Nat.pow_le_pow_right (by omega) (by omega)
        refine lNil ?_
        refine kThen ?_
        refine kIfT rfl ?_
        refine kDrawE [(0, none)] [] [0, 1, 2, 3, 4, 5, 6, 7, 8] 1 hMix (by kernel_rfl) ?_
        refine .run rfl (yLoad1 rfl O142 (cOwn 3 rfl rfl)) rfl rfl ?_
        refine .run rfl (yMove rfl) rfl rfl ?_
        refine .run rfl (yMove rfl) rfl rfl ?_
        refine .run rfl (yShl (a := 1) rfl rfl rfl (by omega) (by omega)) rfl rfl ?_
        refine .run rfl (yOr rfl rfl rfl (by omega) (by omega)) rfl rfl ?_
        refine .run rfl (yMove rfl) rfl rfl ?_
        refine .run rfl (yvSame (u := i64 (m : Nat)) (ySub rfl rfl (by omega)) (by congr 1; omega)) rfl rfl ?_
        refine .run rfl (yMove rfl) rfl rfl ?_
        refine .run rfl (yvSame (u := i64 ((i + 1 : Nat) : Int)) (yAdd rfl rfl (by omega)) (by congr 1)) rfl rfl ?_
        refine .done ?_
        refine effStep 9 [] (by kernel_rfl) closedSt (hLeft [0] (by kernel_rfl) (.c (fun _ _ hs => hs.ef) .n)) ?_
        refine .c ?_ .n
        refine effOne rfl (gNone rfl (eCallWM 0 rfl rfl (.c rfl (.c rfl (.c rfl .n))) C113 (fun w hw hb => ih (i + 1) (s ||| 1 * 2 ^ i) (onT isB stars m fr s b i) w (by omega) (by omega) (subS_or hs hbt) (onT_lt isB stars ht m fr s b i hs hb0) (Eff.selfM hw) (fun w' o L' hw' => hI w' o _ ((Eff.lessL (A := [_]) (B := [_, _, _]) hw hr).wroteM (i := 0) rfl hw'))) trSelf)) ?_
        refine effDone closedSt (hLeft [] (by kernel_rfl) .n) (by kernel_rfl) ?_
        refine kInN ?_
        refine kThen ?_
        refine kRegion rfl ?_
        refine lV (yMove rfl) rfl rfl ?_
        refine lV (yAdd rfl rfl (by omega)) rfl rfl ?_
        refine lV (yAssign rfl) rfl rfl ?_
        refine lNil ?_
        exact kRoundX (i + 1) (⟨.inr (by omega), by omega⟩) (by omega) (by first | (rw [onT_succ, if_pos ⟨hfi, hbt⟩]; rfl) | (rw [onT_succ, if_neg (fun h => absurd h.2 hbt)])) (.c rfl .n) (.c rfl (.c rfl (.c rfl (.c rfl (.c rfl (.c rfl (.c rfl (.c rfl (.c rfl (.c rfl .n)))))))))) .n
      · have hbt : ¬ stars.testBit i = true := fun h => h37 ((bit1_iff stars i).2 h)
        refine lNil ?_
        refine kThen ?_
        refine kIfF rfl ?_
        refine kSkip ?_
        refine kInN ?_
        refine kThen ?_
        refine kRegion rfl ?_
        refine lV (yMove rfl) rfl rfl ?_
        refine lV (yAdd rfl rfl (by omega)) rfl rfl ?_
        refine lV (yAssign rfl) rfl rfl ?_
        refine lNil ?_
        exact kRoundX (i + 1) (⟨.inr (by omega), by omega⟩) (by omega) (by first | (rw [onT_succ, if_pos ⟨hfi, hbt⟩]; rfl) | (rw [onT_succ, if_neg (fun h => absurd h.2 hbt)])) (.c rfl .n) (.c rfl (.c rfl (.c rfl (.c rfl (.c rfl (.c rfl (.c rfl (.c rfl (.c rfl (.c rfl .n)))))))))) .n
    · refine kIfF rfl ?_
      refine kExit ?_
      refine kThenX ?_
      refine kThenX ?_
      refine kInX ?_
      refine fEnd rfl .n ?_
      have hfin : onT isB stars m fr s b i = onP isB stars (m + 1) fr s b := by
        rcases hi with rfl | hi
        · show _ = onT isB stars m i s b (lenT stars)
          rw [onT_from _ _ _ _ _ _ _ (Nat.le_refl _), onT_from _ _ _ _ _ _ _ (by omega)]
        · have : i = lenT stars := by omega
          subst this; rfl
      rw [hfin]
      exact fun w' hw' => ⟨rfl, (Eff.lessL (A := [_]) (B := [_, _, _]) hw' hr).sub .n⟩
end Go.Proofs.Ytlcdohhhhlhpmaa
namespace Go.Proofs.Ytlcdohhhhlhpmaa
open ZW

def leastT (isB : Nat → Bool) (stars n : Nat) : Nat := (List.range n).foldl (fun b k => if b = 0 then onP isB stars (k + 1) 0 0 b else b) 0
def leastP (isB : Nat → Bool) (stars : Nat) : Nat := leastT isB stars (popc stars)
theorem leastT_succ (isB : Nat → Bool) (stars n : Nat) : leastT isB stars (n + 1) = if leastT isB stars n = 0 then onP isB stars (n + 1) 0 0 (leastT isB stars n) else leastT isB stars n := range_foldl_succ _ _ _
theorem leastT_stop (isB : Nat → Bool) (stars n : Nat) (h : leastT isB stars n ≠ 0) : ∀ k, leastT isB stars (n + k) = leastT isB stars n
  | 0 => rfl
  | k + 1 => by
    have ih := leastT_stop isB stars n h k
    rw [← Nat.add_assoc, leastT_succ, ih, if_neg h]
theorem subS_zero (t : Nat) : subS 0 t := fun i hi => by simp at hi
theorem leastT_lt (isB : Nat → Bool) (stars : Nat) (ht : stars < 1024) : ∀ n, leastT isB stars n < 1024
  | 0 => by simp [leastT]
  | n + 1 => by
    have ih := leastT_lt isB stars ht n
    rw [leastT_succ]
    split
    · exact onP_lt isB stars ht _ _ _ _ (subS_zero _) ih
    · exact ih
theorem popc_10 : ∀ s, s < 1024 → popc s ≤ 10 := by
  have h : ((List.range 1024).all fun s => Nat.ble (popc s) 10) = true := by kernel_rfl
  intro s hs
  exact Nat.le_of_ble_eq_true (List.all_eq_true.1 h s (List.mem_range.2 hs))
set_option maxRecDepth 100000 in
set_option maxHeartbeats 4000000 in
theorem least_any (F : FuncId) (caps : List Value) (hF : callT Try.prog F = true) (isB : Nat → Bool) (stars : Nat) (ht : stars < 1024) (W : World)
    (hI : ∀ w L, Eff W [] L w → ∀ s, subS s stars → Calls Try.prog F ([Value.int .u64 (s : Nat)] ++ caps).toArray w (Ret w (.bool (isB s)))) :
    Calls Try.prog 82 [.int .u64 (stars : Nat), .func (.func F) [].toArray caps.toArray].toArray W (Ret W (.int .u64 ((leastP isB stars : Nat) : Int))) := by
  have hpc := popc_10 stars ht
  refine fEnter Try.func82 rfl Try.ntmps82 rfl ?_
  refine kSeq ?_
  refine kRegion rfl ?_
  refine lE rfl ?_
  refine eBox1 rfl rfl fun n2 => ?_
  refine lE rfl ?_
  refine eBox1 rfl rfl fun n3 => ?_
  refine lE rfl ?_
  refine eAlloc Z114 fun n4 => ?_
  refine lNil ?_
  refine kThen ?_
  refine kSeq ?_
  refine kRegion rfl ?_
  refine lE rfl ?_
  refine eAlloc Z142 fun n5 => ?_
  refine lNil ?_
  refine kThen ?_
  refine kSeq ?_
  refine kRegion rfl ?_
  refine lV (yMakeFunc .n (.c rfl (.c rfl (.c rfl (.c rfl .n))))) rfl rfl ?_
  refine lE rfl ?_
  refine eStoreL 0 rfl rfl rfl rfl K142 rfl (rfl) ?_
  refine lNil ?_
  refine kThen ?_
  refine kSeq ?_
  refine kSeq ?_
  refine kRegion rfl ?_
  refine lV (yAssign rfl) rfl rfl ?_
  refine lNil ?_
  refine kThen ?_
  refine kBlock ?_
  refine kLoopX (ι := Nat) (fun k => k ≤ popc stars) (fun k => [(6, i64 ((k + 1 : Nat) : Int))]) [(0, _), (1, _), (2, _), (3, _), (4, _), (5, _), (7, _)] (fun k => []) (fun k => [(n4, blk [.int .u64 ((leastT isB stars k : Nat) : Int)] 114)]) [(n5, _), (n3, _), (n2, _)] (fun k => popc stars - k) 0 (Nat.zero_le _) rfl (.c rfl .n) (.c rfl (.c rfl (.c rfl (.c rfl (.c rfl (.c rfl (.c rfl .n))))))) (.c 0 rfl (.c 1 rfl (.c 1 rfl (.c 0 rfl .n)))) ?_
  rintro k hk
  have hbl := leastT_lt isB stars ht k
  refine kSeq ?_
  refine kSeq ?_
  refine kRegion rfl ?_
  refine lV (yMove rfl) rfl rfl ?_
  refine lV (yLoad1 rfl O114 (cOwn 2 rfl rfl)) rfl rfl ?_
  refine lV (yCall rfl (.c rfl .n) C115 (fun w hw => ones_any stars w (by omega))) rfl rfl ?_
  refine same (t := 10) (u := i64 (popc stars : Nat)) rfl (rfl) ?_
  refine lV (yLeq rfl rfl) rfl rfl ?_
  refine split (t := 11) rfl (fun h11 => ?_) (fun h11 => ?_)
  · refine lV (yMove rfl) rfl rfl ?_
    refine lGY rfl rfl rfl (oV (yLoad1 rfl O114 (cOwn 3 rfl rfl)) rfl ?_)
    refine lGY rfl rfl rfl (oV (yEql rfl rfl) rfl ?_)
    refine lV (yPickT rfl rfl) rfl rfl ?_
    refine lNil ?_
    refine kThen ?_
    refine split (t := 15) rfl (fun h15 => ?_) (fun h15 => ?_)
    · refine kIfT rfl ?_
      refine kSkip ?_
      refine kThen ?_
      refine kSeq ?_
      refine kBlock ?_
      refine kRegion rfl ?_
      refine lV (yLoad1 rfl O142 (cOwn 0 rfl rfl)) rfl rfl ?_
      refine lV (yMove rfl) rfl rfl ?_
      refine lE rfl ?_
      refine eCallW 3 rfl rfl (.c rfl (.c rfl (.c rfl .n))) C113 (fun w hw hb => on_any F caps hF isB stars ht n4 n3 n2 n5 (k + 1) 0 0 (leastT isB stars k) w (by omega) (by omega) (subS_zero _) hbl (hw.self (.c 3 rfl (.c 1 rfl (.c 1 rfl (.c 0 rfl .n))))) (fun w' o L' hw' => hI w' _ (hw.wroteL (i := 3) rfl hw'))) ?_
      refine lNil ?_
      refine kInN ?_
      refine kThen ?_
      refine kRegion rfl ?_
      refine lV (yMove rfl) rfl rfl ?_
      refine lV (yAdd rfl rfl (by omega)) rfl rfl ?_
      refine lV (yAssign rfl) rfl rfl ?_
      refine lNil ?_
      exact kRoundX (k + 1) (by omega) (by omega) rfl (.c (by show some (i64 _) = _; congr 1) .n) (.c rfl (.c rfl (.c rfl (.c rfl (.c rfl (.c rfl (.c rfl .n))))))) (.c 0 rfl (.c 0 rfl (.c 0 rfl (.c 0 (by rw [leastT_succ, if_pos (by omega)]; rfl) .n))))
    · refine kIfF rfl ?_
      refine kExit ?_
      refine kThenX ?_
      refine kThenX ?_
      refine kInX ?_
      refine kThen ?_
      refine kSeq ?_
      refine kRegion rfl ?_
      refine lV (yLoad1 rfl O114 (cOwn 3 rfl rfl)) rfl rfl ?_
      refine lE rfl ?_
      refine eStoreL 3 rfl rfl rfl rfl K114 rfl (rfl) ?_
      refine lNil ?_
      refine kThen ?_
      refine kRet ?_
      refine fRet rfl (.c1 rfl O114 (cOwn 3 rfl rfl) .n) ?_
      have hfin : leastT isB stars k = leastP isB stars := by
        by_cases h0 : leastT isB stars k = 0
        · have : k = popc stars := by omega
          rw [this]; rfl
        · have := leastT_stop isB stars k h0 (popc stars - k)
          rw [show k + (popc stars - k) = popc stars by omega] at this
          exact this.symm
      rw [← hfin]
      exact endRet rfl
  · refine lV (yMove rfl) rfl rfl ?_
    refine lGN rfl rfl rfl rfl rfl ?_
    refine lGN rfl rfl rfl rfl rfl ?_
    refine lV (yPickF rfl rfl) rfl rfl ?_
    refine lNil ?_
    refine kThen ?_
    refine kIfF rfl ?_
    refine kExit ?_
    refine kThenX ?_
    refine kThenX ?_
    refine kInX ?_
    refine kThen ?_
    refine kSeq ?_
    refine kRegion rfl ?_
    refine lV (yLoad1 rfl O114 (cOwn 3 rfl rfl)) rfl rfl ?_
    refine lE rfl ?_
    refine eStoreL 3 rfl rfl rfl rfl K114 rfl (rfl) ?_
    refine lNil ?_
    refine kThen ?_
    refine kRet ?_
    refine fRet rfl (.c1 rfl O114 (cOwn 3 rfl rfl) .n) ?_
    have hfin : leastT isB stars k = leastP isB stars := by
      by_cases h0 : leastT isB stars k = 0
      · have : k = popc stars := by omega
        rw [this]; rfl
      · have := leastT_stop isB stars k h0 (popc stars - k)
        rw [show k + (popc stars - k) = popc stars by omega] at this
        exact this.symm
    rw [← hfin]
    exact endRet rfl

/-! ### Clash and Drop -/
abbrev outI (r : Int × Int) : Value := .tuple [i64 r.1, i64 r.2].toArray
def clashB (p : Plt) (s : Nat) : Bool := !decide (scalesP p s ≠ [])
def clashE (p : Plt) : Int × Int := if ¬ PltOk p then (0, 1) else if scalesP p (knownP p) ≠ [] then (0, 0) else (((leastP (clashB p) (knownP p) : Nat) : Int), 0)
theorem subS_ok {p : Plt} {s : Nat} (h : subS s (knownP p)) : setOk p s := fun i hi => known_ok p i (h i hi)
set_option maxRecDepth 100000 in
theorem clash2_any (cn pb mb : Nat) (y : Option Addr × Nat) (p : Plt) (s : Nat) (w : World) (hc : w.heap[cn]? = some (blk [.pointer (some ⟨pb, 0, none⟩)] 91)) (hb : w.heap[pb]? = some (blk (lookC y p mb) 90)) (hst : InP w y p) (hp : PltOk p) (hs : setOk p s) :
    Calls Try.prog 83 [.int .u64 (s : Nat), .pointer (some ⟨cn, 0, none⟩)].toArray w (Ret w (.bool (clashB p s))) := by
  refine fEnter Try.func83 rfl Try.ntmps83 rfl ?_
  refine kSeq ?_
  refine kRegion rfl ?_
  refine lV (yAssign rfl) rfl rfl ?_
  refine lNil ?_
  refine kThen ?_
  refine kSeq ?_
  refine kRegion rfl ?_
  refine lV (yLoad1 rfl O91 (cOldB (hc) rfl)) rfl rfl ?_
  refine lV (yMove rfl) rfl rfl ?_
  refine lV (yCall rfl (.c rfl (.c rfl .n)) C80 (fun w hw => can_any pb mb y p s w (hw.old' hb) (hst.eff0 hw) hp hs)) rfl rfl ?_
  refine lV (yNot rfl) rfl rfl ?_
  refine lV (yAssign rfl) rfl rfl ?_
  refine lNil ?_
  refine kThen ?_
  refine kRet ?_
  refine fRet rfl (.t rfl .n) (endRet ?_)
  rfl
set_option maxRecDepth 100000 in
theorem clash_1 (y : Option Addr × Nat) (p : Plt) (w : World) (hm : InP w y p) (hp : ¬ PltOk p) : Calls Try.prog 26 [.agg (pltC y p).toArray].toArray w (Ret w (outI (clashE p))) := by
  refine fEnter Try.func26 rfl Try.ntmps26 rfl ?_
  refine kSeq ?_
  refine kRegion rfl ?_
  refine lE rfl ?_
  refine eBoxA rfl fun n1 => ?_
  refine lV (yAssign rfl) rfl rfl ?_
  refine lE rfl ?_
  refine eAlloc Z29 fun n3 => ?_
  refine lNil ?_
  refine kThen ?_
  refine kSeq ?_
  refine kRegion rfl ?_
  refine lV (yMakeFunc .n (.c rfl .n)) rfl rfl ?_
  refine lE rfl ?_
  refine eDefer rfl .n ?_
  refine lNil ?_
  refine kThen ?_
  refine kSeq ?_
  refine kRegion rfl ?_
  refine lV (yLoadA (vs := [_, _, _]) rfl A26 (cOwn 1 rfl rfl)) rfl rfl ?_
  refine lE rfl ?_
  refine eCallP rfl (.c rfl (.c rfl .n)) C79 (fun w hw => open_bad y p true 1 w (hm.eff0 hw) (.inl ⟨hp, rfl⟩)) ?_
  refine kThenP ?_
  refine fPanC 0 DClash C78 rfl rfl (.t rfl (.c1 rfl O29 (cOwn 0 rfl rfl) .n)) (endRet ?_)
  simp only [packV, clashE, if_pos hp]
set_option maxRecDepth 100000 in
set_option maxHeartbeats 2000000 in
theorem clash_0 (y : Option Addr × Nat) (p : Plt) (w : World) (hm : InP w y p) (hp : PltOk p) : Calls Try.prog 26 [.agg (pltC y p).toArray].toArray w (Ret w (outI (clashE p))) := by
  have hlt := setOk_lt (known_ok p) hp.n
  have hll : leastP (clashB p) (knownP p) < 1024 := leastT_lt _ _ hlt _
  refine fEnter Try.func26 rfl Try.ntmps26 rfl ?_
  refine kSeq ?_
  refine kRegion rfl ?_
  refine lE rfl ?_
  refine eBoxA rfl fun n1 => ?_
  refine lV (yAssign rfl) rfl rfl ?_
  refine lE rfl ?_
  refine eAlloc Z29 fun n3 => ?_
  refine lNil ?_
  refine kThen ?_
  refine kSeq ?_
  refine kRegion rfl ?_
  refine lV (yMakeFunc .n (.c rfl .n)) rfl rfl ?_
  refine lE rfl ?_
  refine eDefer rfl .n ?_
  refine lNil ?_
  refine kThen ?_
  refine kSeq ?_
  refine kRegion rfl ?_
  refine lV (yLoadA (vs := [_, _, _]) rfl A26 (cOwn 1 rfl rfl)) rfl rfl ?_
  refine lE rfl ?_
  refine eCallX rfl (.c rfl (.c rfl .n)) C79 (fun w hw => open_any y p w (hm.eff0 hw) hp) fun ⟨pb, mb⟩ _ => ?_
  refine lE rfl ?_
  refine eAlloc Z91 fun n4 => ?_
  refine lE rfl ?_
  refine eStoreL 0 rfl rfl rfl rfl K91 rfl (rfl) ?_
  refine lNil ?_
  refine kThen ?_
  refine kSeq ?_
  refine kSeq ?_
  refine kDrawE [(0, none), (1, none), (2, none), (3, none)] [] [0, 1, 2, 3] 0 hMix (by kernel_rfl) ?_
  refine .run rfl (yLoad1 rfl O91 (cOwn 0 rfl rfl)) rfl rfl ?_
  refine .run rfl (yLoad1 rfl O91 (cOwn 0 rfl rfl)) rfl rfl ?_
  refine .run rfl (yCall rfl (.c rfl .n) C81 (fun w hw => known_any pb mb y p w (hw.blkAt 1 rfl) (hm.eff0 hw) hp.n)) rfl rfl ?_
  refine .run rfl (yCall rfl (.c rfl (.c rfl .n)) C80 (fun w hw => can_any pb mb y p _ w (hw.blkAt 1 rfl) (hm.eff0 hw) hp (known_ok p))) rfl rfl ?_
  refine .done ?_
  refine effDone closedSt (hLeft [0, 1, 2, 3] (by kernel_rfl) (.c (fun _ _ hs => hs.ef) (.c (fun _ _ hs => hs.ef) (.c (fun _ _ hs => hs.ef) (.c (fun _ _ hs => hs.ef) .n))))) (by kernel_rfl) ?_
  refine kThen ?_
  refine splitB (t := 11) rfl (fun h11 => ?_) (fun h11 => ?_)
  · refine kIfT rfl ?_
    refine kSeq ?_
    refine kRegion rfl ?_
    refine lV (yAssign rfl) rfl rfl ?_
    refine lE rfl ?_
    refine eStoreL 3 rfl rfl rfl rfl K29 rfl (rfl) ?_
    refine lNil ?_
    refine kThen ?_
    refine kRet ?_
    refine kThenR ?_
    refine fRetC DClash C78 rfl (.t rfl (.c1 rfl O29 (cOwn 3 rfl rfl) .n)) (endRet ?_)
    have hx := of_decide_eq_true h11
    simp only [packV, clashE, if_neg (not_not_intro hp), if_pos hx]
  · refine kIfF rfl ?_
    refine kSkip ?_
    refine kThen ?_
    refine kSeq ?_
    refine kRegion rfl ?_
    refine lV (yLoad1 rfl O91 (cOwn 0 rfl rfl)) rfl rfl ?_
    refine lV (yCall rfl (.c rfl .n) C81 (fun w hw => known_any pb mb y p w (hw.blkAt 1 rfl) (hm.eff0 hw) hp.n)) rfl rfl ?_
    refine lV (yMakeFunc .n (.c rfl .n)) rfl rfl ?_
    refine lV (yCall rfl (.c rfl (.c rfl .n)) C82 (fun w hw => least_any 83 [.pointer (some ⟨n4, 0, none⟩)] C83 (clashB p) (knownP p) hlt w (fun w' L hw' s hs => clash2_any n4 pb mb y p s w' (hw'.old' (hw.blkAt 0 rfl)) (hw'.old' (hw.blkAt 1 rfl)) ((hm.eff0 hw).eff0 hw') hp (subS_ok hs)))) rfl rfl ?_
    refine lV (yConvInt rfl U114 U3 (conv_ok (by omega))) rfl rfl ?_
    refine lV (yAssign rfl) rfl rfl ?_
    refine lE rfl ?_
    refine eStoreL 3 rfl rfl rfl rfl K29 rfl (rfl) ?_
    refine lNil ?_
    refine kThen ?_
    refine kRet ?_
    refine fRetC DClash C78 rfl (.t rfl (.c1 rfl O29 (cOwn 3 rfl rfl) .n)) (endRet ?_)
    have hx := of_decide_eq_false h11
    simp only [packV, clashE, if_neg (not_not_intro hp), if_neg hx]
theorem clash_any (y : Option Addr × Nat) (p : Plt) (w : World) (hm : InP w y p) : Calls Try.prog 26 [.agg (pltC y p).toArray].toArray w (Ret w (outI (clashE p))) := by
  by_cases hp : PltOk p
  · exact clash_0 y p w hm hp
  · exact clash_1 y p w hm hp

def dropB (p : Plt) (s : Nat) : Bool := decide (scalesP p (less (knownP p) s) ≠ [])
def dropE (p : Plt) : Int × Int := if ¬ PltOk p then (0, 1) else if scalesP p (knownP p) ≠ [] then (0, 0) else (((leastP (dropB p) (knownP p) : Nat) : Int), 0)
theorem less_bit (a b i : Nat) : (less a b).testBit i = (a.testBit i && !b.testBit i) := by
  unfold less
  rw [Nat.testBit_xor, Nat.testBit_and]
  cases a.testBit i <;> cases b.testBit i <;> rfl
theorem less_ok (p : Plt) (s : Nat) : setOk p (less (knownP p) s) := fun i hi => known_ok p i (by
  rw [less_bit, Bool.and_eq_true] at hi; exact hi.1)
set_option maxRecDepth 100000 in
theorem drop2_any (cn pb mb : Nat) (y : Option Addr × Nat) (p : Plt) (s : Nat) (w : World) (hc : w.heap[cn]? = some (blk [.pointer (some ⟨pb, 0, none⟩)] 91)) (hb : w.heap[pb]? = some (blk (lookC y p mb) 90)) (hst : InP w y p) (hp : PltOk p) (hs : s < 1024) :
    Calls Try.prog 87 [.int .u64 (s : Nat), .pointer (some ⟨cn, 0, none⟩)].toArray w (Ret w (.bool (dropB p s))) := by
  have hlt := setOk_lt (known_ok p) hp.n
  refine fEnter Try.func87 rfl Try.ntmps87 rfl ?_
  refine kSeq ?_
  refine kRegion rfl ?_
  refine lV (yAssign rfl) rfl rfl ?_
  refine lNil ?_
  refine kThen ?_
  refine kSeq ?_
  refine kDrawE [(0, none), (1, none), (2, none), (5, none)] [] [0, 1, 2, 3, 4, 5, 6] 0 hMix (by kernel_rfl) ?_
  refine .run rfl (yLoad1 rfl O91 (cOldB (hc) rfl)) rfl rfl ?_
  refine .run rfl (yLoad1 rfl O91 (cOldB (hc) rfl)) rfl rfl ?_
  refine .run rfl (yCall rfl (.c rfl .n) C81 (fun w hw => known_any pb mb y p w (hw.old' hb) (hst.eff0 hw) hp.n)) rfl rfl ?_
  refine .run rfl (yMove rfl) rfl rfl ?_
  refine .run rfl (yAndNot rfl rfl rfl (by omega) (by omega)) rfl rfl ?_
  refine .run rfl (yCall rfl (.c rfl (.c rfl .n)) C80 (fun w hw => can_any pb mb y p _ w (hw.old' hb) (hst.eff0 hw) hp (less_ok p s))) rfl rfl ?_
  refine .run rfl (yAssign rfl) rfl rfl ?_
  refine .done ?_
  refine effDone closedSt (hLeft [0, 1, 2, 5] (by kernel_rfl) (.c (fun _ _ hs => hs.ef) (.c (fun _ _ hs => hs.ef) (.c (fun _ _ hs => hs.ef) (.c (fun _ _ hs => hs.ef) .n))))) (by kernel_rfl) ?_
  refine kThen ?_
  refine kRet ?_
  refine fRet rfl (.t rfl .n) (endRet ?_)
  rfl
set_option maxRecDepth 100000 in
theorem drop_1 (y : Option Addr × Nat) (p : Plt) (w : World) (hm : InP w y p) (hp : ¬ PltOk p) : Calls Try.prog 28 [.agg (pltC y p).toArray].toArray w (Ret w (outI (dropE p))) := by
  refine fEnter Try.func28 rfl Try.ntmps28 rfl ?_
  refine kSeq ?_
  refine kRegion rfl ?_
  refine lE rfl ?_
  refine eBoxA rfl fun n1 => ?_
  refine lV (yAssign rfl) rfl rfl ?_
  refine lE rfl ?_
  refine eAlloc Z29 fun n3 => ?_
  refine lNil ?_
  refine kThen ?_
  refine kSeq ?_
  refine kRegion rfl ?_
  refine lV (yMakeFunc .n (.c rfl .n)) rfl rfl ?_
  refine lE rfl ?_
  refine eDefer rfl .n ?_
  refine lNil ?_
  refine kThen ?_
  refine kSeq ?_
  refine kRegion rfl ?_
  refine lV (yLoadA (vs := [_, _, _]) rfl A26 (cOwn 1 rfl rfl)) rfl rfl ?_
  refine lE rfl ?_
  refine eCallP rfl (.c rfl (.c rfl .n)) C79 (fun w hw => open_bad y p true 1 w (hm.eff0 hw) (.inl ⟨hp, rfl⟩)) ?_
  refine kThenP ?_
  refine fPanC 0 DDrop C86 rfl rfl (.t rfl (.c1 rfl O29 (cOwn 0 rfl rfl) .n)) (endRet ?_)
  simp only [packV, dropE, if_pos hp]
set_option maxRecDepth 100000 in
set_option maxHeartbeats 2000000 in
theorem drop_0 (y : Option Addr × Nat) (p : Plt) (w : World) (hm : InP w y p) (hp : PltOk p) : Calls Try.prog 28 [.agg (pltC y p).toArray].toArray w (Ret w (outI (dropE p))) := by
  have hlt := setOk_lt (known_ok p) hp.n
  have hll : leastP (dropB p) (knownP p) < 1024 := leastT_lt _ _ hlt _
  refine fEnter Try.func28 rfl Try.ntmps28 rfl ?_
  refine kSeq ?_
  refine kRegion rfl ?_
  refine lE rfl ?_
  refine eBoxA rfl fun n1 => ?_
  refine lV (yAssign rfl) rfl rfl ?_
  refine lE rfl ?_
  refine eAlloc Z29 fun n3 => ?_
  refine lNil ?_
  refine kThen ?_
  refine kSeq ?_
  refine kRegion rfl ?_
  refine lV (yMakeFunc .n (.c rfl .n)) rfl rfl ?_
  refine lE rfl ?_
  refine eDefer rfl .n ?_
  refine lNil ?_
  refine kThen ?_
  refine kSeq ?_
  refine kRegion rfl ?_
  refine lV (yLoadA (vs := [_, _, _]) rfl A26 (cOwn 1 rfl rfl)) rfl rfl ?_
  refine lE rfl ?_
  refine eCallX rfl (.c rfl (.c rfl .n)) C79 (fun w hw => open_any y p w (hm.eff0 hw) hp) fun ⟨pb, mb⟩ _ => ?_
  refine lE rfl ?_
  refine eAlloc Z91 fun n4 => ?_
  refine lE rfl ?_
  refine eStoreL 0 rfl rfl rfl rfl K91 rfl (rfl) ?_
  refine lNil ?_
  refine kThen ?_
  refine kSeq ?_
  refine kSeq ?_
  refine kDrawE [(0, none), (1, none), (2, none), (3, none)] [] [0, 1, 2, 3] 0 hMix (by kernel_rfl) ?_
  refine .run rfl (yLoad1 rfl O91 (cOwn 0 rfl rfl)) rfl rfl ?_
  refine .run rfl (yLoad1 rfl O91 (cOwn 0 rfl rfl)) rfl rfl ?_
  refine .run rfl (yCall rfl (.c rfl .n) C81 (fun w hw => known_any pb mb y p w (hw.blkAt 1 rfl) (hm.eff0 hw) hp.n)) rfl rfl ?_
  refine .run rfl (yCall rfl (.c rfl (.c rfl .n)) C80 (fun w hw => can_any pb mb y p _ w (hw.blkAt 1 rfl) (hm.eff0 hw) hp (known_ok p))) rfl rfl ?_
  refine .done ?_
  refine effDone closedSt (hLeft [0, 1, 2, 3] (by kernel_rfl) (.c (fun _ _ hs => hs.ef) (.c (fun _ _ hs => hs.ef) (.c (fun _ _ hs => hs.ef) (.c (fun _ _ hs => hs.ef) .n))))) (by kernel_rfl) ?_
  refine kThen ?_
  refine splitB (t := 11) rfl (fun h11 => ?_) (fun h11 => ?_)
  · refine kIfT rfl ?_
    refine kSeq ?_
    refine kRegion rfl ?_
    refine lV (yAssign rfl) rfl rfl ?_
    refine lE rfl ?_
    refine eStoreL 3 rfl rfl rfl rfl K29 rfl (rfl) ?_
    refine lNil ?_
    refine kThen ?_
    refine kRet ?_
    refine kThenR ?_
    refine fRetC DDrop C86 rfl (.t rfl (.c1 rfl O29 (cOwn 3 rfl rfl) .n)) (endRet ?_)
    have hx := of_decide_eq_true h11
    simp only [packV, dropE, if_neg (not_not_intro hp), if_pos hx]
  · refine kIfF rfl ?_
    refine kSkip ?_
    refine kThen ?_
    refine kSeq ?_
    refine kRegion rfl ?_
    refine lV (yLoad1 rfl O91 (cOwn 0 rfl rfl)) rfl rfl ?_
    refine lV (yCall rfl (.c rfl .n) C81 (fun w hw => known_any pb mb y p w (hw.blkAt 1 rfl) (hm.eff0 hw) hp.n)) rfl rfl ?_
    refine lV (yMakeFunc .n (.c rfl .n)) rfl rfl ?_
    refine lV (yCall rfl (.c rfl (.c rfl .n)) C82 (fun w hw => least_any 87 [.pointer (some ⟨n4, 0, none⟩)] C87 (dropB p) (knownP p) hlt w (fun w' L hw' s hs => drop2_any n4 pb mb y p s w' (hw'.old' (hw.blkAt 0 rfl)) (hw'.old' (hw.blkAt 1 rfl)) ((hm.eff0 hw).eff0 hw') hp (subS_lt hs hlt)))) rfl rfl ?_
    refine lV (yConvInt rfl U114 U3 (conv_ok (by omega))) rfl rfl ?_
    refine lV (yAssign rfl) rfl rfl ?_
    refine lE rfl ?_
    refine eStoreL 3 rfl rfl rfl rfl K29 rfl (rfl) ?_
    refine lNil ?_
    refine kThen ?_
    refine kRet ?_
    refine fRetC DDrop C86 rfl (.t rfl (.c1 rfl O29 (cOwn 3 rfl rfl) .n)) (endRet ?_)
    have hx := of_decide_eq_false h11
    simp only [packV, dropE, if_neg (not_not_intro hp), if_neg hx]
theorem drop_any (y : Option Addr × Nat) (p : Plt) (w : World) (hm : InP w y p) : Calls Try.prog 28 [.agg (pltC y p).toArray].toArray w (Ret w (outI (dropE p))) := by
  by_cases hp : PltOk p
  · exact drop_0 y p w hm hp
  · exact drop_1 y p w hm hp
end Go.Proofs.Ytlcdohhhhlhpmaa
namespace Go.Proofs.Ytlcdohhhhlhpmaa
open ZW

set_option maxRecDepth 100000 in
theorem spanL_any (lo hi : Int) (w : World) : Calls Try.prog 34 [i64 lo, i64 hi].toArray w (Ret w (.agg [i64 lo, i64 hi].toArray)) := by
  refine fEnter Try.func34 rfl Try.ntmps34 rfl ?_
  refine kSeq ?_
  refine kRegion rfl ?_
  refine lE rfl ?_
  refine eAlloc Z23 fun n4 => ?_
  refine lNil ?_
  refine kThen ?_
  refine kSeq ?_
  refine kRegion rfl ?_
  refine lV (yMove rfl) rfl rfl ?_
  refine lV (yMove rfl) rfl rfl ?_
  refine lV (yBuild (.c rfl (.c rfl .n)) (fun w => B23_0_1 w)) rfl rfl ?_
  refine lE rfl ?_
  refine eStoreL 0 rfl rfl rfl rfl K23 rfl (rfl) ?_
  refine lNil ?_
  refine kThen ?_
  refine kRet ?_
  refine fRet rfl (.cA (us := [_, _]) rfl A23 (cOwn 0 rfl rfl) .n) (endRet ?_)
  rfl
set_option maxRecDepth 100000 in
theorem starL_any (a b c d : Int) (w : World) : Calls Try.prog 90 [i64 a, i64 b, i64 c, i64 d].toArray w (Ret w (.agg (rowS ⟨(a, b), (c, d), false, (0, 0), (0, 0)⟩).toArray)) := by
  refine fEnter Try.func90 rfl Try.ntmps90 rfl ?_
  refine kSeq ?_
  refine kRegion rfl ?_
  refine lE rfl ?_
  refine eAlloc Z58 fun n8 => ?_
  refine lNil ?_
  refine kThen ?_
  refine kSeq ?_
  refine kRegion rfl ?_
  refine lV (yMove rfl) rfl rfl ?_
  refine lV (yMove rfl) rfl rfl ?_
  refine lV (yCall rfl (.c rfl (.c rfl .n)) C34 (fun w hw => spanL_any _ _ w)) rfl rfl ?_
  refine lV (yMove rfl) rfl rfl ?_
  refine lV (yMove rfl) rfl rfl ?_
  refine lV (yCall rfl (.c rfl (.c rfl .n)) C34 (fun w hw => spanL_any _ _ w)) rfl rfl ?_
  refine lV (yBuild (.c rfl (.c rfl .n)) (fun w => B58_0_1 w)) rfl rfl ?_
  refine lE rfl ?_
  refine eStoreL 0 rfl rfl rfl rfl K58 rfl (rfl) ?_
  refine lNil ?_
  refine kThen ?_
  refine kRet ?_
  refine fRet rfl (.cA (us := [_, _, _, _, _, _, _, _, _]) rfl A58 (cOwn 0 rfl rfl) .n) (endRet ?_)
  rfl
set_option maxRecDepth 100000 in
theorem knownL_any (s : StarV) (a b c d : Int) (w : World) : Calls Try.prog 89 [.agg (rowS s).toArray, i64 a, i64 b, i64 c, i64 d].toArray w (Ret w (.agg (rowS { s with k := true, e := (a, b), n := (c, d) }).toArray)) := by
  refine fEnter Try.func89 rfl Try.ntmps89 rfl ?_
  refine kSeq ?_
  refine kRegion rfl ?_
  refine lE rfl ?_
  refine eBoxA rfl fun n5 => ?_
  refine lE rfl ?_
  refine eAlloc Z58 fun n10 => ?_
  refine lNil ?_
  refine kThen ?_
  refine kSeq ?_
  refine kRegion rfl ?_
  refine lV (yMove rfl) rfl rfl ?_
  refine lV (yMove rfl) rfl rfl ?_
  refine lV (yCall rfl (.c rfl (.c rfl .n)) C34 (fun w hw => spanL_any _ _ w)) rfl rfl ?_
  refine lV (yMove rfl) rfl rfl ?_
  refine lV (yMove rfl) rfl rfl ?_
  refine lV (yCall rfl (.c rfl (.c rfl .n)) C34 (fun w hw => spanL_any _ _ w)) rfl rfl ?_
  refine lV (yFieldAddr rfl F58_2) rfl rfl ?_
  refine lE rfl ?_
  refine eStoreL 1 rfl rfl rfl rfl K4 rfl (rfl) ?_
  refine lV (yFieldAddr rfl F58_3) rfl rfl ?_
  refine lE rfl ?_
  refine eStoreL 1 rfl rfl rfl rfl K23 rfl (rfl) ?_
  refine lV (yFieldAddr rfl F58_4) rfl rfl ?_
  refine lE rfl ?_
  refine eStoreL 1 rfl rfl rfl rfl K23 rfl (rfl) ?_
  refine lNil ?_
  refine kThen ?_
  refine kSeq ?_
  refine kRegion rfl ?_
  refine lV (yLoadA (vs := [_, _, _, _, _, _, _, _, _]) rfl A58 (cOwn 1 rfl rfl)) rfl rfl ?_
  refine lE rfl ?_
  refine eStoreL 0 rfl rfl rfl rfl K58 rfl (rfl) ?_
  refine lNil ?_
  refine kThen ?_
  refine kRet ?_
  refine fRet rfl (.cA (us := [_, _, _, _, _, _, _, _, _]) rfl A58 (cOwn 0 rfl rfl) .n) (endRet ?_)
  rfl
abbrev smpS : List StarV := [⟨(1000, 1002), (2000, 2001), true, (5600, 5602), (7200, 7203)⟩, ⟨(3000, 3001), (500, 502), true, (6800, 6801), (6300, 6302)⟩, ⟨(2000, 2001), (1500, 1500), false, (0, 0), (0, 0)⟩]
abbrev othS : List StarV := [⟨(1000, 1002), (2000, 2001), true, (5600, 5602), (7200, 7203)⟩, ⟨(3000, 3001), (500, 502), true, (6800, 6801), (6300, 6302)⟩, ⟨(2000, 2001), (1500, 1500), true, (6210, 6211), (6880, 6910)⟩]
abbrev smpP : Plt := ⟨(590, 610), smpS⟩
abbrev othP : Plt := ⟨(590, 610), othS⟩
set_option maxRecDepth 100000 in
set_option maxHeartbeats 2000000 in
theorem sample_any (w : World) : Calls Try.prog 32 [].toArray w (RetX w (fun _ : Nat => True) (fun n => .agg (pltC (some ⟨n, 0, none⟩, 3) smpP).toArray) (fun _ => []) (fun n => [(n, blk (smpS.map rowS).flatten 58)])) := by
  refine fEnter Try.func32 rfl Try.ntmps32 rfl ?_
  refine kSeq ?_
  refine kRegion rfl ?_
  refine lE rfl ?_
  refine eAlloc Z26 fun n0 => ?_
  refine lNil ?_
  refine kThen ?_
  refine kSeq ?_
  refine kRegion rfl ?_
  refine lV (yCall rfl (.c rfl (.c rfl .n)) C34 (fun w hw => spanL_any _ _ w)) rfl rfl ?_
  refine lV (yCall rfl (.c rfl (.c rfl (.c rfl (.c rfl .n)))) C90 (fun w hw => starL_any _ _ _ _ w)) rfl rfl ?_
  refine lV (yCall rfl (.c rfl (.c rfl (.c rfl (.c rfl (.c rfl .n))))) C89 (fun w hw => knownL_any ⟨(1000, 1002), (2000, 2001), false, (0, 0), (0, 0)⟩ _ _ _ _ w)) rfl rfl ?_
  refine lV (yCall rfl (.c rfl (.c rfl (.c rfl (.c rfl .n)))) C90 (fun w hw => starL_any _ _ _ _ w)) rfl rfl ?_
  refine lV (yCall rfl (.c rfl (.c rfl (.c rfl (.c rfl (.c rfl .n))))) C89 (fun w hw => knownL_any ⟨(3000, 3001), (500, 502), false, (0, 0), (0, 0)⟩ _ _ _ _ w)) rfl rfl ?_
  refine lV (yCall rfl (.c rfl (.c rfl (.c rfl (.c rfl .n)))) C90 (fun w hw => starL_any _ _ _ _ w)) rfl rfl ?_
  refine lE rfl ?_
  refine eBuildSlice (.c rfl (.c rfl (.c rfl .n))) (fun w => BS24_3_0_1_2 w) fun n7 => ?_
  refine lV (yBuild (.c rfl (.c rfl .n)) (fun w => B26_0_1 w)) rfl rfl ?_
  refine lE rfl ?_
  refine eStoreL 1 rfl rfl rfl rfl K26 rfl (rfl) ?_
  refine lNil ?_
  refine kThen ?_
  refine kRet ?_
  refine fRet rfl (.cA (us := [_, _, _]) rfl A26 (cOwn 1 rfl rfl) .n) ?_
  exact endX n7 trivial rfl rfl (.c 0 rfl .n)
set_option maxRecDepth 100000 in
set_option maxHeartbeats 2000000 in
theorem other_any (w : World) : Calls Try.prog 33 [].toArray w (RetX w (fun _ : Nat => True) (fun n => .agg (pltC (some ⟨n, 0, none⟩, 3) othP).toArray) (fun _ => []) (fun n => [(n, blk (othS.map rowS).flatten 58)])) := by
  refine fEnter Try.func33 rfl Try.ntmps33 rfl ?_
  refine kSeq ?_
  refine kRegion rfl ?_
  refine lE rfl ?_
  refine eAlloc Z26 fun n0 => ?_
  refine lNil ?_
  refine kThen ?_
  refine kSeq ?_
  refine kRegion rfl ?_
  refine lE rfl ?_
  refine eCallX rfl .n C32 (fun w hw => sample_any w) fun ns _ => ?_
  refine lE rfl ?_
  refine eAlloc Z26 fun n1 => ?_
  refine lE rfl ?_
  refine eStoreL 0 rfl rfl rfl rfl K26 rfl (rfl) ?_
  refine lNil ?_
  refine kThen ?_
  refine kSeq ?_
  refine kDrawE [(1, none), (3, none), (5, none), (6, none)] [] [0, 1, 2, 3, 4, 5, 6, 7] 1 hMix (by kernel_rfl) ?_
  refine .run rfl (yFieldAddr rfl F26_1) rfl rfl ?_
  refine .run rfl (yLoad1 rfl O24 (cOwn 0 rfl rfl)) rfl rfl ?_
  refine .run rfl (yFieldAddr rfl F26_1) rfl rfl ?_
  refine .run rfl (yLoad1 rfl O24 (cOwn 0 rfl rfl)) rfl rfl ?_
  refine .run rfl (yIndexSl rfl rfl S24 (by decide) (by decide)) rfl rfl ?_
  refine .run rfl (yLoadA (vs := [_, _, _, _, _, _, _, _, _]) rfl A58 (cOwn 1 rfl rfl)) rfl rfl ?_
  refine .run rfl (yCall rfl (.c rfl (.c rfl (.c rfl (.c rfl (.c rfl .n))))) C89 (fun w hw => knownL_any ⟨(2000, 2001), (1500, 1500), false, (0, 0), (0, 0)⟩ _ _ _ _ w)) rfl rfl ?_
  refine .run rfl (yIndexSl rfl rfl S24 (by decide) (by decide)) rfl rfl ?_
  refine .done ?_
  refine effStep 8 [] (by kernel_rfl) closedSt (hLeft [1, 3, 5, 6] (by kernel_rfl) (.c (fun _ _ hs => hs.ef) (.c (fun _ _ hs => hs.ef) (.c (fun _ _ hs => hs.ef) (.c (fun _ _ hs => hs.ef) .n))))) ?_
  refine .c ?_ .n
  refine effOne rfl (gNone rfl (fStoreL 1 rfl rfl rfl rfl K58 rfl (rfl))) ?_
  refine effDone closedSt (hLeft [] (by kernel_rfl) .n) (by kernel_rfl) ?_
  refine kThen ?_
  refine kSeq ?_
  refine kRegion rfl ?_
  refine lV (yLoadA (vs := [_, _, _]) rfl A26 (cOwn 0 rfl rfl)) rfl rfl ?_
  refine lE rfl ?_
  refine eStoreL 2 rfl rfl rfl rfl K26 rfl (rfl) ?_
  refine lNil ?_
  refine kThen ?_
  refine kRet ?_
  refine fRet rfl (.cA (us := [_, _, _]) rfl A26 (cOwn 2 rfl rfl) .n) ?_
  exact endX ns trivial rfl rfl (.c 1 rfl .n)
theorem inSmp {w : World} {n : Nat} (h : w.heap[n]? = some (blk (smpS.map rowS).flatten 58)) : InP w (some ⟨n, 0, none⟩, 3) smpP := sleRows (f := rowS) (fun _ => rfl) star0 smpS rfl h
theorem inOth {w : World} {n : Nat} (h : w.heap[n]? = some (blk (othS.map rowS).flatten 58)) : InP w (some ⟨n, 0, none⟩, 3) othP := sleRows (f := rowS) (fun _ => rfl) star0 othS rfl h
theorem ex1 : scaleE smpP = ((599, 601), 0) := by kernel_rfl
theorem ex2 : zeroE smpP = ((4998, 5003), (5999, 6003), 0) := by kernel_rfl
theorem ex3 : starE smpP 2 = ((6200, 6201), (6900, 6902), 0) := by kernel_rfl
theorem ex4 : apartE smpP 0 2 = ((599, 600), (-301, -300), 0) := by kernel_rfl
theorem ex5 : findE smpP 6200 6900 = ((1999, 2001), (1496, 1501), 0) := by kernel_rfl
theorem ex6 : clashE othP = (7, 0) := by kernel_rfl
theorem ex7 : dropE othP = (1, 0) := by kernel_rfl
theorem ex8 : poorE smpP = (0, 5, 0) := by kernel_rfl
theorem ex9 : starE smpP 0 = ((5600, 5602), (7200, 7203), 0) := by kernel_rfl
theorem exA : clashE smpP = (0, 0) := by kernel_rfl
theorem exB : dropE smpP = (0, 0) := by kernel_rfl
theorem exC : scaleE othP = ((0, 0), 10) := by kernel_rfl
end Go.Proofs.Ytlcdohhhhlhpmaa
