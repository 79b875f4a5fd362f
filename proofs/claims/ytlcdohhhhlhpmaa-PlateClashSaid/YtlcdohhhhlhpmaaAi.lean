/-
  Walks: where the corner is.
-/
import Derived.Test.YtlcdohhhhlhpmaaAh
namespace Go.Proofs.Ytlcdohhhhlhpmaa
open ZW

theorem IX97_0 {a b c d : Int} (w : World) : (Instr.index 97 (.agg [i64 a, i64 b, i64 c, i64 d].toArray) (i64 0)).run Try.prog w = .ok (.agg [i64 a, i64 b].toArray) w := by kernel_rfl
theorem IX97_1 {a b c d : Int} (w : World) : (Instr.index 97 (.agg [i64 a, i64 b, i64 c, i64 d].toArray) (i64 1)).run Try.prog w = .ok (.agg [i64 c, i64 d].toArray) w := by kernel_rfl
abbrev outC2 (r : (Int × Int) × (Int × Int) × Int) : Value := .tuple [spanV r.1, spanV r.2.1, i64 r.2.2].toArray
/-- What is kept of a corner. -/
def zeroG (p : Plt) (d : Bool) (s : Int) : List Int := [(cornP p d s (knownP p)).1, (cornP p d s (knownP p)).2]
def zeroE (p : Plt) : (Int × Int) × (Int × Int) × Int := if toldE p true ≠ 0 then ((0, 0), (0, 0), toldE p true) else (spanE (hullE ((scalesP p (knownP p)).flatMap (zeroG p false))), spanE (hullE ((scalesP p (knownP p)).flatMap (zeroG p true))), 0)
set_option maxRecDepth 100000 in
theorem zero_bad (y : Option Addr × Nat) (p : Plt) (w : World) (hm : InP w y p) (h : toldE p true ≠ 0) : Calls Try.prog 17 [.agg (pltC y p).toArray].toArray w (Ret w (outC2 (zeroE p))) := by
  refine fEnter Try.func17 rfl Try.ntmps17 rfl ?_
  refine kSeq ?_
  refine kRegion rfl ?_
  refine lE rfl ?_
  refine eBoxA rfl fun n1 => ?_
  refine lE rfl ?_
  refine eAlloc Z23 fun n2 => ?_
  refine lE rfl ?_
  refine eAlloc Z23 fun n3 => ?_
  refine lE rfl ?_
  refine eAlloc Z29 fun n4 => ?_
  refine lNil ?_
  refine kThen ?_
  refine kSeq ?_
  refine kRegion rfl ?_
  refine lV (yMakeFunc .n (.c rfl .n)) rfl rfl ?_
  refine lE rfl ?_
  refine eDefer rfl .n ?_
  refine lNil ?_
  refine kThen ?_
  refine kSeq ?_
  refine kRegion rfl ?_
  refine lE rfl ?_
  refine eAlloc Z96 fun n5 => ?_
  refine lNil ?_
  refine kThen ?_
  refine kSeq ?_
  refine kSeq ?_
  refine kRegion rfl ?_
  refine lV (yLoadA (vs := [_, _, _]) rfl A26 (cOwn 4 rfl rfl)) rfl rfl ?_
  refine lE rfl ?_
  refine eCallP rfl (.c rfl (.c rfl .n)) C59 (fun w hw => told_bad y p true w (hm.eff0 hw) h) ?_
  refine kThenP ?_
  refine kThenP ?_
  refine fPanC 1 DZero C58 rfl rfl (.cA (us := [_, _]) rfl A23 (cOwn 3 rfl rfl) (.cA (us := [_, _]) rfl A23 (cOwn 2 rfl rfl) (.c1 rfl O29 (cOwn 1 rfl rfl) .n))) (endRet ?_)
  simp only [packV, zeroE, if_pos h]
set_option maxRecDepth 100000 in
set_option maxHeartbeats 2000000 in
theorem zero_ok (y : Option Addr × Nat) (p : Plt) (w : World) (hm : InP w y p) (h : toldE p true = 0) : Calls Try.prog 17 [.agg (pltC y p).toArray].toArray w (Ret w (outC2 (zeroE p))) := by
  refine fEnter Try.func17 rfl Try.ntmps17 rfl ?_
  refine kSeq ?_
  refine kRegion rfl ?_
  refine lE rfl ?_
  refine eBoxA rfl fun n1 => ?_
  refine lE rfl ?_
  refine eAlloc Z23 fun n2 => ?_
  refine lE rfl ?_
  refine eAlloc Z23 fun n3 => ?_
  refine lE rfl ?_
  refine eAlloc Z29 fun n4 => ?_
  refine lNil ?_
  refine kThen ?_
  refine kSeq ?_
  refine kRegion rfl ?_
  refine lV (yMakeFunc .n (.c rfl .n)) rfl rfl ?_
  refine lE rfl ?_
  refine eDefer rfl .n ?_
  refine lNil ?_
  refine kThen ?_
  refine kSeq ?_
  refine kRegion rfl ?_
  refine lE rfl ?_
  refine eAlloc Z96 fun n5 => ?_
  refine lNil ?_
  refine kThen ?_
  refine kSeq ?_
  refine kSeq ?_
  refine kRegion rfl ?_
  refine lV (yLoadA (vs := [_, _, _]) rfl A26 (cOwn 4 rfl rfl)) rfl rfl ?_
  refine lE rfl ?_
  refine eCallX rfl (.c rfl (.c rfl .n)) C59 (fun w hw => told_any y p true w (hm.eff0 hw) h) fun ⟨pb, mb⟩ _ => ?_
  refine lV (yNilCheckP rfl) rfl rfl ?_
  refine lV (yFieldAddr rfl F90_1) rfl rfl ?_
  refine lV (yLoad1 rfl O88 (cOwn 0 rfl rfl)) rfl rfl ?_
  refine lE rfl ?_
  refine eRange MP88 rfl (fun w hw => hw.blkAt 1 rfl) fun it => ?_
  refine lNil ?_
  refine kThen ?_
  refine kBlock ?_
  refine kLoopX (ι := Array Nat × Ends × Ends) (fun x => (∀ j, x.1.contains j = true → j < (filS p (knownP p) (nSc p)).length) ∧ Hull x.2.1 (SeenS x.1 fun i => zeroG p false ((scalesP p (knownP p)).getD i 0)) ∧ Hull x.2.2 (SeenS x.1 fun i => zeroG p true ((scalesP p (knownP p)).getD i 0))) (fun x => []) [(0, _), (1, _), (2, _), (3, _), (4, _), (10, _), (5, _), (11, _), (12, _), (13, _), (14, _), (15, _), (16, _)] (fun x => []) (fun x => [(it, itO mb (esA p (knownP p)) x.1), (n5, blk (endC2 x.2.1 x.2.2) 96)]) [(pb, _), (mb, _), (n4, _), (n3, _), (n2, _), (n1, _)] (fun x => leftN (filS p (knownP p) (nSc p)).length x.1) (#[], end0, end0) (⟨fun j h => by simp at h, SeenS.empty _, SeenS.empty _⟩) rfl .n (.c rfl (.c rfl (.c rfl (.c rfl (.c rfl (.c rfl (.c rfl (.c rfl (.c rfl (.c rfl (.c rfl (.c rfl (.c rfl .n))))))))))))) (.c 1 rfl (.c 1 rfl (.c 2 rfl (.c 2 rfl (.c 2 rfl (.c 2 rfl (.c 0 rfl (.c 0 rfl .n)))))))) ?_
  rintro ⟨seen, a, b⟩ ⟨hsn, ha, hb⟩
  dsimp only at hsn ha hb ⊢
  refine kSeq ?_
  refine kRegion rfl ?_
  refine lE rfl ?_
  refine eNext 6 rfl rfl (fun w hw => hw.blkAt 1 rfl) (fun hall => ?_) (fun j p hj hsj => ?_)
  · refine lV (yExtract rfl rfl) rfl rfl ?_
    refine lNil ?_
    refine kThen ?_
    refine kSeq ?_
    refine kIfF rfl ?_
    refine kExit ?_
    refine kThenX ?_
    refine kThenX ?_
    refine kInX ?_
    refine kThen ?_
    refine kSeq ?_
    refine kDrawE [(1, none), (2, none), (4, none), (5, none)] [] [0, 1, 2, 3, 4, 5] 3 hMix (by kernel_rfl) ?_
    refine .run rfl (yIndexAr rfl rfl R96 (by omega) (by omega)) rfl rfl ?_
    refine .run rfl (yLoadA (vs := [_, _, _]) rfl A86 (cOwn 7 rfl rfl)) rfl rfl ?_
    refine .run rfl (yCall rfl (.c rfl .n) C56 (fun w hw => span_any _ w)) rfl rfl ?_
    refine .run rfl (yIndexAr rfl rfl R96 (by omega) (by omega)) rfl rfl ?_
    refine .run rfl (yLoadA (vs := [_, _, _]) rfl A86 (cOwn 7 rfl rfl)) rfl rfl ?_
    refine .run rfl (yCall rfl (.c rfl .n) C56 (fun w hw => span_any _ w)) rfl rfl ?_
    refine .done ?_
    refine effStep 6 [] (by kernel_rfl) closedSt (hLeft [1, 2, 4, 5] (by kernel_rfl) (.c (fun _ _ hs => hs.ef) (.c (fun _ _ hs => hs.ef) (.c (fun _ _ hs => hs.ef) (.c (fun _ _ hs => hs.ef) .n))))) ?_
    refine .c ?_ .n
    refine effOne rfl (gNone rfl (fStoreL 4 rfl rfl rfl rfl K23 rfl (rfl))) ?_
    refine effStep 7 [] (by kernel_rfl) closedSt (hLeft [] (by kernel_rfl) .n) ?_
    refine .c ?_ .n
    refine effOne rfl (gNone rfl (fStoreL 3 rfl rfl rfl rfl K23 rfl (rfl))) ?_
    refine effStep 8 [] (by kernel_rfl) closedSt (hLeft [] (by kernel_rfl) .n) ?_
    refine .c ?_ .n
    refine effOne rfl (gNone rfl (fStoreL 2 rfl rfl rfl rfl K29 rfl (rfl))) ?_
    refine effDone closedSt (hLeft [] (by kernel_rfl) .n) (by kernel_rfl) ?_
    refine kThen ?_
    refine kRet ?_
    refine fRetC DZero C58 rfl (.cA (us := [_, _]) rfl A23 (cOwn 4 rfl rfl) (.cA (us := [_, _]) rfl A23 (cOwn 3 rfl rfl) (.c1 rfl O29 (cOwn 2 rfl rfl) .n))) (endRet ?_)
    have e1 := SeenS.all (G := zeroG p false) ha (scalesP_len p (knownP p)).symm hsn (fun i hi => hall i (by rw [esP_len]; exact hi))
    have e2 := SeenS.all (G := zeroG p true) hb (scalesP_len p (knownP p)).symm hsn (fun i hi => hall i (by rw [esP_len]; exact hi))
    subst e1 e2
    simp only [packV, zeroE, if_neg (not_not_intro h)]
  · obtain ⟨hjl, rfl⟩ := esP_get hj
    refine lV (yExtract rfl rfl) rfl rfl ?_
    refine lNil ?_
    refine kThen ?_
    refine kSeq ?_
    refine kIfT rfl ?_
    refine kSkip ?_
    refine kThen ?_
    refine kBlock ?_
    refine kSeq ?_
    refine kRegion rfl ?_
    refine lV (yEntry rfl hj (fun w hw => ⟨hw.blkAt 6 rfl, hw.blkAt 1 rfl⟩)) rfl rfl ?_
    refine lV (yExtract rfl rfl) rfl rfl ?_
    refine lE rfl ?_
    refine eAlloc Z97 fun n7 => ?_
    refine lE rfl ?_
    refine eStoreL 0 rfl rfl rfl rfl K97 rfl (rfl) ?_
    refine lNil ?_
    refine kThen ?_
    refine kSeq ?_
    refine kRegion rfl ?_
    refine lV (yLoadA (vs := [_, _, _, _]) rfl A97 (cOwn 0 rfl rfl)) rfl rfl ?_
    refine lV (yMove rfl) rfl rfl ?_
    refine lNil ?_
    refine kThen ?_
    refine kBlock ?_
    refine kLoopX (ι := Nat) (fun k => k ≤ 2) (fun k => [(22, i64 (k : Nat))]) [(0, _), (1, _), (2, _), (3, _), (4, _), (10, _), (5, _), (11, _), (12, _), (13, _), (14, _), (15, _), (16, _), (17, _), (18, _), (19, _), (20, _), (7, _), (21, _)] (fun k => []) (fun k => [(n5, blk (endC2 (cond (Nat.blt 0 k) ((zeroG p false ((scalesP p (knownP p)).getD j 0)).foldl keepE a) a) (cond (Nat.blt 1 k) ((zeroG p true ((scalesP p (knownP p)).getD j 0)).foldl keepE b) b)) 96)]) [(n7, _), (pb, _), (mb, _), (n4, _), (n3, _), (n2, _), (n1, _), (it, _)] (fun k => 2 - k) 0 (by omega) rfl (.c rfl .n) (.c rfl (.c rfl (.c rfl (.c rfl (.c rfl (.c rfl (.c rfl (.c rfl (.c rfl (.c rfl (.c rfl (.c rfl (.c rfl (.c rfl (.c rfl (.c rfl (.c rfl (.c rfl (.c rfl .n))))))))))))))))))) (.c 0 rfl (.c 0 rfl (.c 0 rfl (.c 0 rfl (.c 0 rfl (.c 0 rfl (.c 0 rfl (.c 0 rfl (.c 0 rfl .n))))))))) ?_
    rintro k hk
    refine kSeq ?_
    refine kRegion rfl ?_
    refine lV (yLss rfl rfl) rfl rfl ?_
    refine lNil ?_
    refine kThen ?_
    refine kSeq ?_
    refine split (t := 23) rfl (fun h23 => ?_) (fun h23 => ?_)
    · refine kIfT rfl ?_
      refine kSkip ?_
      refine kThen ?_
      refine kSeq ?_
      refine kBlock ?_
      refine kSeq ?_
      by_cases hk0 : k = 0
      · subst hk0
        refine kRegion rfl ?_
        refine lV (yMove rfl) rfl rfl ?_
        refine lV (yIndexV rfl rfl (fun w => IX97_0 w)) rfl rfl ?_
        refine lE rfl ?_
        refine eAlloc Z23 fun n9 => ?_
        refine lV (yAssign rfl) rfl rfl ?_
        refine lE rfl ?_
        refine eStoreL 0 rfl rfl rfl rfl K23 rfl (rfl) ?_
        refine lNil ?_
        refine kThen ?_
        refine kSeq ?_
        refine kDrawE [(3, none)] [] [0, 1, 2, 3] 1 hMix (by kernel_rfl) ?_
        refine .run rfl (yMove rfl) rfl rfl ?_
        refine .run rfl (yIndexAr rfl rfl R96 (by omega) (by omega)) rfl rfl ?_
        refine .run rfl (yFieldAddr rfl F23_0) rfl rfl ?_
        refine .run rfl (yLoad1 rfl O3 (cOwn 0 rfl rfl)) rfl rfl ?_
        refine .done ?_
        refine effStep 4 [] (by kernel_rfl) closedSt (hLeft [3] (by kernel_rfl) (.c (fun _ _ hs => hs.ef) .n)) ?_
        refine .c ?_ .n
        refine effOne rfl (gNone rfl (eCallW 9 rfl rfl (.c rfl (.c rfl .n)) C54 (fun w hw hb => keepA _ a b _ w hb) trSelf)) ?_
        refine effDone closedSt (hLeft [] (by kernel_rfl) .n) (by kernel_rfl) ?_
        refine kThen ?_
        refine kDrawE [(3, none)] [] [0, 1, 2, 3] 1 hMix (by kernel_rfl) ?_
        refine .run rfl (yMove rfl) rfl rfl ?_
        refine .run rfl (yIndexAr rfl rfl R96 (by omega) (by omega)) rfl rfl ?_
        refine .run rfl (yFieldAddr rfl F23_1) rfl rfl ?_
        refine .run rfl (yLoad1 rfl O3 (cOwn 0 rfl rfl)) rfl rfl ?_
        refine .done ?_
        refine effStep 4 [] (by kernel_rfl) closedSt (hLeft [3] (by kernel_rfl) (.c (fun _ _ hs => hs.ef) .n)) ?_
        refine .c ?_ .n
        refine effOne rfl (gNone rfl (eCallW 9 rfl rfl (.c rfl (.c rfl .n)) C54 (fun w hw hb => keepA _ _ b _ w hb) trSelf)) ?_
        refine effDone closedSt (hLeft [] (by kernel_rfl) .n) (by kernel_rfl) ?_
        refine kInN ?_
        refine kThen ?_
        refine kRegion rfl ?_
        refine lV (yAdd rfl rfl (by omega)) rfl rfl ?_
        refine lV (yMove rfl) rfl rfl ?_
        refine lNil ?_
        exact kRoundX 1 (by omega) (by omega) rfl (.c rfl .n) (.c rfl (.c rfl (.c rfl (.c rfl (.c rfl (.c rfl (.c rfl (.c rfl (.c rfl (.c rfl (.c rfl (.c rfl (.c rfl (.c rfl (.c rfl (.c rfl (.c rfl (.c rfl (.c rfl .n))))))))))))))))))) (.c 1 rfl (.c 1 rfl (.c 1 rfl (.c 1 rfl (.c 1 rfl (.c 1 rfl (.c 1 rfl (.c 1 rfl (.c 1 rfl .n)))))))))
      · obtain rfl : k = 1 := by omega
        refine kRegion rfl ?_
        refine lV (yMove rfl) rfl rfl ?_
        refine lV (yIndexV rfl rfl (fun w => IX97_1 w)) rfl rfl ?_
        refine lE rfl ?_
        refine eAlloc Z23 fun n9 => ?_
        refine lV (yAssign rfl) rfl rfl ?_
        refine lE rfl ?_
        refine eStoreL 0 rfl rfl rfl rfl K23 rfl (rfl) ?_
        refine lNil ?_
        refine kThen ?_
        refine kSeq ?_
        refine kDrawE [(3, none)] [] [0, 1, 2, 3] 1 hMix (by kernel_rfl) ?_
        refine .run rfl (yMove rfl) rfl rfl ?_
        refine .run rfl (yIndexAr rfl rfl R96 (by omega) (by omega)) rfl rfl ?_
        refine .run rfl (yFieldAddr rfl F23_0) rfl rfl ?_
        refine .run rfl (yLoad1 rfl O3 (cOwn 0 rfl rfl)) rfl rfl ?_
        refine .done ?_
        refine effStep 4 [] (by kernel_rfl) closedSt (hLeft [3] (by kernel_rfl) (.c (fun _ _ hs => hs.ef) .n)) ?_
        refine .c ?_ .n
        refine effOne rfl (gNone rfl (eCallW 9 rfl rfl (.c rfl (.c rfl .n)) C54 (fun w hw hb => keepB _ _ b _ w hb) trSelf)) ?_
        refine effDone closedSt (hLeft [] (by kernel_rfl) .n) (by kernel_rfl) ?_
        refine kThen ?_
        refine kDrawE [(3, none)] [] [0, 1, 2, 3] 1 hMix (by kernel_rfl) ?_
        refine .run rfl (yMove rfl) rfl rfl ?_
        refine .run rfl (yIndexAr rfl rfl R96 (by omega) (by omega)) rfl rfl ?_
        refine .run rfl (yFieldAddr rfl F23_1) rfl rfl ?_
        refine .run rfl (yLoad1 rfl O3 (cOwn 0 rfl rfl)) rfl rfl ?_
        refine .done ?_
        refine effStep 4 [] (by kernel_rfl) closedSt (hLeft [3] (by kernel_rfl) (.c (fun _ _ hs => hs.ef) .n)) ?_
        refine .c ?_ .n
        refine effOne rfl (gNone rfl (eCallW 9 rfl rfl (.c rfl (.c rfl .n)) C54 (fun w hw hb => keepB _ _ _ _ w hb) trSelf)) ?_
        refine effDone closedSt (hLeft [] (by kernel_rfl) .n) (by kernel_rfl) ?_
        refine kInN ?_
        refine kThen ?_
        refine kRegion rfl ?_
        refine lV (yAdd rfl rfl (by omega)) rfl rfl ?_
        refine lV (yMove rfl) rfl rfl ?_
        refine lNil ?_
        exact kRoundX 2 (by omega) (by omega) rfl (.c rfl .n) (.c rfl (.c rfl (.c rfl (.c rfl (.c rfl (.c rfl (.c rfl (.c rfl (.c rfl (.c rfl (.c rfl (.c rfl (.c rfl (.c rfl (.c rfl (.c rfl (.c rfl (.c rfl (.c rfl .n))))))))))))))))))) (.c 1 rfl (.c 1 rfl (.c 1 rfl (.c 1 rfl (.c 1 rfl (.c 1 rfl (.c 1 rfl (.c 1 rfl (.c 1 rfl .n)))))))))
    · refine kIfF rfl ?_
      refine kExit ?_
      refine kThenX ?_
      refine kThenX ?_
      refine kInX ?_
      refine kInN ?_
      obtain rfl : k = 2 := by omega
      exact kRoundX (seen.push j, (zeroG p false ((scalesP p (knownP p)).getD j 0)).foldl keepE a, (zeroG p true ((scalesP p (knownP p)).getD j 0)).foldl keepE b) (⟨seen_push hsn hjl, SeenS.push j ha, SeenS.push j hb⟩) (leftN_push hjl hsj) rfl .n (.c rfl (.c rfl (.c rfl (.c rfl (.c rfl (.c rfl (.c rfl (.c rfl (.c rfl (.c rfl (.c rfl (.c rfl (.c rfl .n))))))))))))) (.c 1 rfl (.c 1 rfl (.c 1 rfl (.c 1 rfl (.c 1 rfl (.c 1 rfl (.c 1 rfl (.c 1 rfl .n))))))))
theorem zero_any (y : Option Addr × Nat) (p : Plt) (w : World) (hm : InP w y p) : Calls Try.prog 17 [.agg (pltC y p).toArray].toArray w (Ret w (outC2 (zeroE p))) := by
  by_cases h : toldE p true = 0
  · exact zero_ok y p w hm h
  · exact zero_bad y p w hm h
end Go.Proofs.Ytlcdohhhhlhpmaa
