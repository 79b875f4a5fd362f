/-
  Walks: Apart.
-/
import Derived.Test.YtlcdohhhhlhpmaaAm
namespace Go.Proofs.Ytlcdohhhhlhpmaa
open ZW

def apartQ (p : Plt) (i k : Nat) (d : Bool) (s : Int) : List Int := apartG d (p.st.getD i star0) (p.st.getD k star0) s (cornP p d s (knownP p))
def apartH (p : Plt) (i k : Nat) (d : Bool) : Ends := hullE ((scalesP p (knownP p)).flatMap (apartQ p i k d))
def apartE (p : Plt) (a b : Int) : (Int × Int) × (Int × Int) × Int :=
  if truthE p (isStarB p a && isStarB p b) ≠ 0 then ((0, 0), (0, 0), truthE p (isStarB p a && isStarB p b)) else if a = b then ((0, 0), (0, 0), 0)
  else (spanE (apartH p a.toNat b.toNat false), spanE (apartH p a.toNat b.toNat true), 0)
set_option maxRecDepth 100000 in
set_option maxHeartbeats 2000000 in
theorem apart_bad (y : Option Addr × Nat) (p : Plt) (a b : Int) (w : World) (hm : InP w y p) (hL : p.st.length ≤ 1000000) (h : truthE p (isStarB p a && isStarB p b) ≠ 0) : Calls Try.prog 21 [.agg (pltC y p).toArray, i64 a, i64 b].toArray w (Ret w (outC2 (apartE p a b))) := by
  have e : apartE p a b = ((0, 0), (0, 0), truthE p (isStarB p a && isStarB p b)) := by unfold apartE; rw [if_pos h]
  rw [e]
  refine fEnter Try.func21 rfl Try.ntmps21 rfl ?_
  refine kSeq ?_
  refine kRegion rfl ?_
  refine lE rfl ?_
  refine eBoxA rfl fun n3 => ?_
  refine lE rfl ?_
  refine eAlloc Z23 fun n6 => ?_
  refine lE rfl ?_
  refine eAlloc Z23 fun n7 => ?_
  refine lE rfl ?_
  refine eAlloc Z29 fun n8 => ?_
  refine lNil ?_
  refine kThen ?_
  refine kSeq ?_
  refine kRegion rfl ?_
  refine lV (yMakeFunc .n (.c rfl .n)) rfl rfl ?_
  refine lE rfl ?_
  refine eDefer rfl .n ?_
  refine lNil ?_
  refine kThen ?_
  refine kSeq ?_
  by_cases hsa : 0 ≤ a ∧ a ≤ p.st.length - 1
  · rw [show isStarB p a = true from decide_eq_true hsa, Bool.true_and] at h ⊢
    refine kDrawE [(0, none), (1, none), (3, none), (5, none), (7, none)] [] [0, 1, 2, 3, 4, 5, 6, 7, 8] 2 hMix (by kernel_rfl) ?_
    refine .run rfl (yLoadA (vs := [_, _, _]) rfl A26 (cOwn 3 rfl rfl)) rfl rfl ?_
    refine .run rfl (yLoadA (vs := [_, _, _]) rfl A26 (cOwn 3 rfl rfl)) rfl rfl ?_
    refine .run rfl (yMove rfl) rfl rfl ?_
    refine .run rfl (yvIs (c := true) (yCall rfl (.c rfl (.c rfl .n)) C64 (fun w hw => isStar_any y p a w hL)) (decide_eq_true hsa)) rfl rfl ?_
    refine .run rfl (yMove rfl) rfl rfl ?_
    refine .runG rfl (yLoadA (vs := [_, _, _]) rfl A26 (cOwn 3 rfl rfl)) rfl rfl rfl rfl ?_
    refine .runG rfl (yMove rfl) rfl rfl rfl rfl ?_
    refine .runG rfl (yCall rfl (.c rfl (.c rfl .n)) C64 (fun w hw => isStar_any y p b w hL)) rfl rfl rfl rfl ?_
    refine .run rfl (yPickT rfl rfl) rfl rfl ?_
    refine .done ?_
    refine effStep 9 [] (by kernel_rfl) closedSt (hLeft [0, 1, 3, 5, 7] (by kernel_rfl) (.c (fun _ _ hs => hs.ef) (.c (fun _ _ hs => hs.ef) (.c (fun _ _ hs => hs.ef) (.c (fun _ _ hs => hs.ef) (.c (fun _ _ hs => hs.ef) .n)))))) ?_
    refine .c ?_ .n
    refine effLast rfl rfl (by kernel_rfl) ?_
    refine eCallP rfl (.c rfl (.c rfl .n)) C55 (fun w hw => truth_bad y p _ w (hm.eff0 hw) h) ?_
    refine kThenP ?_
    refine fPanC 0 DApart C68 rfl rfl (.cA (us := [_, _]) rfl A23 (cOwn 2 rfl rfl) (.cA (us := [_, _]) rfl A23 (cOwn 1 rfl rfl) (.c1 rfl O29 (cOwn 0 rfl rfl) .n))) (endRet ?_)
    simp only [packV]
  · rw [show isStarB p a = false from decide_eq_false hsa, Bool.false_and] at h ⊢
    refine kDrawE [(0, none), (1, none), (3, none)] [] [0, 1, 2, 3, 4, 5, 6, 7, 8] 2 hMix (by kernel_rfl) ?_
    refine .run rfl (yLoadA (vs := [_, _, _]) rfl A26 (cOwn 3 rfl rfl)) rfl rfl ?_
    refine .run rfl (yLoadA (vs := [_, _, _]) rfl A26 (cOwn 3 rfl rfl)) rfl rfl ?_
    refine .run rfl (yMove rfl) rfl rfl ?_
    refine .run rfl (yvIs (c := false) (yCall rfl (.c rfl (.c rfl .n)) C64 (fun w hw => isStar_any y p a w hL)) (decide_eq_false hsa)) rfl rfl ?_
    refine .run rfl (yMove rfl) rfl rfl ?_
    refine .skip rfl rfl rfl rfl rfl rfl ?_
    refine .skip rfl rfl rfl rfl rfl rfl ?_
    refine .skip rfl rfl rfl rfl rfl rfl ?_
    refine .run rfl (yPickF rfl rfl) rfl rfl ?_
    refine .done ?_
    refine effStep 9 [] (by kernel_rfl) closedSt (hLeft [0, 1, 3] (by kernel_rfl) (.c (fun _ _ hs => hs.ef) (.c (fun _ _ hs => hs.ef) (.c (fun _ _ hs => hs.ef) .n)))) ?_
    refine .c ?_ .n
    refine effLast rfl rfl (by kernel_rfl) ?_
    refine eCallP rfl (.c rfl (.c rfl .n)) C55 (fun w hw => truth_bad y p _ w (hm.eff0 hw) h) ?_
    refine kThenP ?_
    refine fPanC 0 DApart C68 rfl rfl (.cA (us := [_, _]) rfl A23 (cOwn 2 rfl rfl) (.cA (us := [_, _]) rfl A23 (cOwn 1 rfl rfl) (.c1 rfl O29 (cOwn 0 rfl rfl) .n))) (endRet ?_)
    simp only [packV]
set_option maxRecDepth 100000 in
set_option maxHeartbeats 4000000 in
theorem apart_ok (y : Option Addr × Nat) (p : Plt) (i k : Nat) (w : World) (hm : InP w y p) (hi : i < p.st.length) (hk : k < p.st.length) (h : truthE p (isStarB p (i : Nat) && isStarB p (k : Nat)) = 0) : Calls Try.prog 21 [.agg (pltC y p).toArray, i64 (i : Nat), i64 (k : Nat)].toArray w (Ret w (outC2 (apartE p (i : Nat) (k : Nat)))) := by
  have hp := (truthE_ok h).1
  have hpn := hp.n
  have hsi : isStarB p (i : Nat) = true := decide_eq_true (by omega)
  have hsk : isStarB p (k : Nat) = true := decide_eq_true (by omega)
  have h' := h
  rw [hsi, hsk] at h'
  refine fEnter Try.func21 rfl Try.ntmps21 rfl ?_
  refine kSeq ?_
  refine kRegion rfl ?_
  refine lE rfl ?_
  refine eBoxA rfl fun n3 => ?_
  refine lE rfl ?_
  refine eAlloc Z23 fun n6 => ?_
  refine lE rfl ?_
  refine eAlloc Z23 fun n7 => ?_
  refine lE rfl ?_
  refine eAlloc Z29 fun n8 => ?_
  refine lNil ?_
  refine kThen ?_
  refine kSeq ?_
  refine kRegion rfl ?_
  refine lV (yMakeFunc .n (.c rfl .n)) rfl rfl ?_
  refine lE rfl ?_
  refine eDefer rfl .n ?_
  refine lNil ?_
  refine kThen ?_
  refine kSeq ?_
  refine kDrawE [(0, none), (1, none), (3, none), (5, none), (7, none)] [] [0, 1, 2, 3, 4, 5, 6, 7, 8] 2 hMix (by kernel_rfl) ?_
  refine .run rfl (yLoadA (vs := [_, _, _]) rfl A26 (cOwn 3 rfl rfl)) rfl rfl ?_
  refine .run rfl (yLoadA (vs := [_, _, _]) rfl A26 (cOwn 3 rfl rfl)) rfl rfl ?_
  refine .run rfl (yMove rfl) rfl rfl ?_
  refine .run rfl (yvIs (c := true) (yCall rfl (.c rfl (.c rfl .n)) C64 (fun w hw => isStar_any y p _ w (by omega))) (decide_eq_true (by omega))) rfl rfl ?_
  refine .run rfl (yMove rfl) rfl rfl ?_
  refine .runG rfl (yLoadA (vs := [_, _, _]) rfl A26 (cOwn 3 rfl rfl)) rfl rfl rfl rfl ?_
  refine .runG rfl (yMove rfl) rfl rfl rfl rfl ?_
  refine .runG rfl (yvIs (c := true) (yCall rfl (.c rfl (.c rfl .n)) C64 (fun w hw => isStar_any y p _ w (by omega))) (decide_eq_true (by omega))) rfl rfl rfl rfl ?_
  refine .run rfl (yPickT rfl rfl) rfl rfl ?_
  refine .done ?_
  refine effStep 9 [] (by kernel_rfl) closedSt (hLeft [0, 1, 3, 5, 7] (by kernel_rfl) (.c (fun _ _ hs => hs.ef) (.c (fun _ _ hs => hs.ef) (.c (fun _ _ hs => hs.ef) (.c (fun _ _ hs => hs.ef) (.c (fun _ _ hs => hs.ef) .n)))))) ?_
  refine .c ?_ .n
  refine effOne rfl (gNone rfl (fCallO rfl (.c rfl (.c rfl .n)) C55 (fun w hw => truth_any y p true w (hm.eff0 hw) h'))) ?_
  refine effStep 10 [] (by kernel_rfl) (closedEx fun x => closedSt) (hLeft [1] (by kernel_rfl) (.c (fun _ _ ⟨x, hs⟩ => hs.ef.sub (.c 0 rfl (.c 0 rfl (.c 0 rfl (.c 0 rfl .n))))) .n)) ?_
  refine .c ?_ .n
  refine effOne rfl (opEx fun x => (gNone rfl (fV (yAssign rfl) rfl))) ?_
  refine effDone (closedEx fun x => closedSt) (hLeft [] (by kernel_rfl) .n) (by kernel_rfl) ?_
  refine trEx fun x => ?_
  obtain ⟨⟨pb, mb⟩, _⟩ := x
  dsimp only
  refine kThen ?_
  refine kSeq ?_
  refine kSeq ?_
  refine kRegion rfl ?_
  refine lV (yMove rfl) rfl rfl ?_
  refine lV (yMove rfl) rfl rfl ?_
  refine lV (yEql rfl rfl) rfl rfl ?_
  refine split (t := 28) rfl (fun h28 => ?_) (fun h28 => ?_)
  · refine lNil ?_
    refine kThen ?_
    refine kIfT rfl ?_
    refine kSeq ?_
    refine kDrawE [(0, none), (1, some [0, 1, 3, 4, 5])] [] [0, 1] 3 hMix (by kernel_rfl) ?_
    refine .run rfl (yLoadA (vs := [_, _]) rfl A23 (cOwn 2 rfl rfl)) rfl rfl ?_
    refine .run rfl (yLoadA (vs := [_, _]) rfl A23 (cOwn 1 rfl rfl)) rfl rfl ?_
    refine .done ?_
    refine effStep 2 [] (by kernel_rfl) closedSt (hLeft [0, 1] (by kernel_rfl) (.c (fun _ _ hs => hs.ef) (.c (fun _ _ hs => hs.ef.sub (.c 0 rfl (.c 0 rfl (.c 1 rfl (.c 1 rfl (.c 1 rfl .n)))))) .n))) ?_
    refine .c ?_ .n
    refine effOne rfl (gNone rfl (fStoreL 2 rfl rfl rfl rfl K23 rfl (rfl))) ?_
    refine effStep 3 [] (by kernel_rfl) closedSt (hLeft [1] (by kernel_rfl) (.c (fun _ _ hs => hs.ef.sub (.c 0 rfl (.c 0 rfl (.c 1 rfl (.c 1 rfl (.c 1 rfl .n)))))) .n)) ?_
    refine .c ?_ .n
    refine effOne rfl (gNone rfl (fStoreL 1 rfl rfl rfl rfl K23 rfl (rfl))) ?_
    refine effStep 4 [] (by kernel_rfl) closedSt (hLeft [] (by kernel_rfl) .n) ?_
    refine .c ?_ .n
    refine effOne rfl (gNone rfl (fStoreL 0 rfl rfl rfl rfl K29 rfl (rfl))) ?_
    refine effDone closedSt (hLeft [] (by kernel_rfl) .n) (by kernel_rfl) ?_
    refine kThen ?_
    refine kRet ?_
    refine kThenR ?_
    refine fRetC DApart C68 rfl (.cA (us := [_, _]) rfl A23 (cOwn 2 rfl rfl) (.cA (us := [_, _]) rfl A23 (cOwn 1 rfl rfl) (.c1 rfl O29 (cOwn 0 rfl rfl) .n))) (endRet ?_)
    simp only [packV, apartE, if_neg (not_not_intro h), if_pos h28]
  · refine lNil ?_
    refine kThen ?_
    refine kIfF rfl ?_
    refine kSkip ?_
    refine kThen ?_
    refine kSeq ?_
    refine kRegion rfl ?_
    refine lE rfl ?_
    refine eAlloc Z96 fun n10 => ?_
    refine lNil ?_
    refine kThen ?_
    refine kSeq ?_
    refine kSeq ?_
    refine kRegion rfl ?_
    refine lV (yMove rfl) rfl rfl ?_
    refine lV (yNilCheckP rfl) rfl rfl ?_
    refine lV (yFieldAddr rfl F90_1) rfl rfl ?_
    refine lV (yLoad1 rfl O88 (cOwn 5 rfl rfl)) rfl rfl ?_
    refine lE rfl ?_
    refine eRange MP88 rfl (fun w hw => hw.blkAt 6 rfl) fun it => ?_
    refine lNil ?_
    refine kThen ?_
    refine kBlock ?_
    refine kLoopX (ι := Array Nat × Ends × Ends) (fun x => (∀ j, x.1.contains j = true → j < (filS p (knownP p) (nSc p)).length) ∧ Hull x.2.1 (SeenS x.1 fun j => apartQ p i k false ((scalesP p (knownP p)).getD j 0)) ∧ Hull x.2.2 (SeenS x.1 fun j => apartQ p i k true ((scalesP p (knownP p)).getD j 0))) (fun x => []) [(0, _), (1, _), (2, _), (3, _), (6, _), (7, _), (8, _), (15, _), (16, _), (17, _), (18, _), (19, _), (20, _), (21, _), (22, _), (23, _), (24, _), (25, _), (9, _), (26, _), (27, _), (28, _), (10, _), (31, _), (32, _), (33, _), (34, _), (35, _)] (fun x => []) (fun x => [(it, itO mb (esA p (knownP p)) x.1), (n10, blk (endC2 x.2.1 x.2.2) 96)]) [(n8, _), (n7, _), (n6, _), (n3, _), (pb, _), (mb, _)] (fun x => leftN (filS p (knownP p) (nSc p)).length x.1) (#[], end0, end0) (⟨fun j h => by simp at h, SeenS.empty _, SeenS.empty _⟩) rfl .n (.c rfl (.c rfl (.c rfl (.c rfl (.c rfl (.c rfl (.c rfl (.c rfl (.c rfl (.c rfl (.c rfl (.c rfl (.c rfl (.c rfl (.c rfl (.c rfl (.c rfl (.c rfl (.c rfl (.c rfl (.c rfl (.c rfl (.c rfl (.c rfl (.c rfl (.c rfl (.c rfl (.c rfl .n)))))))))))))))))))))))))))) (.c 2 rfl (.c 2 rfl (.c 2 rfl (.c 2 rfl (.c 2 rfl (.c 2 rfl (.c 0 rfl (.c 0 rfl .n)))))))) ?_
    rintro ⟨seen, a, b⟩ ⟨hsn, ha, hb⟩
    dsimp only at hsn ha hb ⊢
    refine kSeq ?_
    refine kRegion rfl ?_
    refine lE rfl ?_
    refine eNext 6 rfl rfl (fun w hw => hw.blkAt 5 rfl) (fun hall => ?_) (fun j p hj hsj => ?_)
    · refine lV (yExtract rfl rfl) rfl rfl ?_
      refine lNil ?_
      refine kThen ?_
      refine kSeq ?_
      refine kIfF rfl ?_
      refine kExit ?_
      refine kThenX ?_
      refine kThenX ?_
      refine kInX ?_
      refine kThen ?_
      refine kSeq ?_
      refine kDrawE [(1, none), (2, none), (4, none), (5, none)] [] [0, 1, 2, 3, 4, 5] 3 hMix (by kernel_rfl) ?_
      refine .run rfl (yIndexAr rfl rfl R96 (by omega) (by omega)) rfl rfl ?_
      refine .run rfl (yLoadA (vs := [_, _, _]) rfl A86 (cOwn 7 rfl rfl)) rfl rfl ?_
      refine .run rfl (yCall rfl (.c rfl .n) C56 (fun w hw => span_any _ w)) rfl rfl ?_
      refine .run rfl (yIndexAr rfl rfl R96 (by omega) (by omega)) rfl rfl ?_
      refine .run rfl (yLoadA (vs := [_, _, _]) rfl A86 (cOwn 7 rfl rfl)) rfl rfl ?_
      refine .run rfl (yCall rfl (.c rfl .n) C56 (fun w hw => span_any _ w)) rfl rfl ?_
      refine .done ?_
      refine effStep 6 [] (by kernel_rfl) closedSt (hLeft [1, 2, 4, 5] (by kernel_rfl) (.c (fun _ _ hs => hs.ef) (.c (fun _ _ hs => hs.ef) (.c (fun _ _ hs => hs.ef) (.c (fun _ _ hs => hs.ef) .n))))) ?_
      refine .c ?_ .n
      refine effOne rfl (gNone rfl (fStoreL 2 rfl rfl rfl rfl K23 rfl (rfl))) ?_
      refine effStep 7 [] (by kernel_rfl) closedSt (hLeft [] (by kernel_rfl) .n) ?_
      refine .c ?_ .n
      refine effOne rfl (gNone rfl (fStoreL 1 rfl rfl rfl rfl K23 rfl (rfl))) ?_
      refine effStep 8 [] (by kernel_rfl) closedSt (hLeft [] (by kernel_rfl) .n) ?_
      refine .c ?_ .n
      refine effOne rfl (gNone rfl (fStoreL 0 rfl rfl rfl rfl K29 rfl (rfl))) ?_
      refine effDone closedSt (hLeft [] (by kernel_rfl) .n) (by kernel_rfl) ?_
      refine kThen ?_
      refine kRet ?_
      refine fRetC DApart C68 rfl (.cA (us := [_, _]) rfl A23 (cOwn 2 rfl rfl) (.cA (us := [_, _]) rfl A23 (cOwn 1 rfl rfl) (.c1 rfl O29 (cOwn 0 rfl rfl) .n))) (endRet ?_)
      have e1 := SeenS.all (G := apartQ p i k false) ha (scalesP_len p (knownP p)).symm hsn (fun i hi => hall i (by rw [esP_len]; exact hi))
      have e2 := SeenS.all (G := apartQ p i k true) hb (scalesP_len p (knownP p)).symm hsn (fun i hi => hall i (by rw [esP_len]; exact hi))
      subst e1 e2
      simp only [packV, apartE, if_neg (not_not_intro h), if_neg h28, Int.toNat_natCast]
      rfl
    · obtain ⟨hjl, rfl⟩ := esP_get hj
      have heo := entry_ok hp hjl
      have hcb := corn_bd heo.2
      refine lV (yExtract rfl rfl) rfl rfl ?_
      refine lNil ?_
      refine kThen ?_
      refine kSeq ?_
      refine kIfT rfl ?_
      refine kSkip ?_
      refine kThen ?_
      refine kBlock ?_
      refine kSeq ?_
      refine kRegion rfl ?_
      refine lV (yEntry rfl hj (fun w hw => ⟨hw.blkAt 6 rfl, hw.blkAt 5 rfl⟩)) rfl rfl ?_
      refine lV (yExtract rfl rfl) rfl rfl ?_
      refine lV (yExtract rfl rfl) rfl rfl ?_
      refine lE rfl ?_
      refine eAlloc Z97 fun n12 => ?_
      refine lV (yAssign rfl) rfl rfl ?_
      refine lE rfl ?_
      refine eStoreL 0 rfl rfl rfl rfl K97 rfl (rfl) ?_
      refine lNil ?_
      refine kThen ?_
      refine kSeq ?_
      refine kRegion rfl ?_
      refine lV (yMove rfl) rfl rfl ?_
      refine lV (yCall rfl (.c rfl .n) C69 (fun w hw => ways_any pb w)) rfl rfl ?_
      refine lV (yMove rfl) rfl rfl ?_
      refine lNil ?_
      refine kThen ?_
      refine kBlock ?_
      refine kLoopX (ι := Nat) (fun q => q ≤ 2) (fun q => [(43, i64 (q : Nat))]) [(0, _), (1, _), (2, _), (3, _), (6, _), (7, _), (8, _), (15, _), (16, _), (17, _), (18, _), (19, _), (20, _), (21, _), (22, _), (23, _), (24, _), (25, _), (9, _), (26, _), (27, _), (28, _), (10, _), (31, _), (32, _), (33, _), (34, _), (35, _), (36, _), (37, _), (38, _), (39, _), (40, _), (12, _), (11, _), (41, _), (42, _)] (fun q => []) (fun q => [(n10, blk (endC2 (cond (Nat.blt 0 q) ((apartQ p i k false ((scalesP p (knownP p)).getD j 0)).foldl keepE a) a) (cond (Nat.blt 1 q) ((apartQ p i k true ((scalesP p (knownP p)).getD j 0)).foldl keepE b) b)) 96)]) [(n12, _), (n8, _), (n7, _), (n6, _), (n3, _), (pb, _), (mb, _), (it, _)] (fun q => 2 - q) 0 (by omega) rfl (.c rfl .n) (.c rfl (.c rfl (.c rfl (.c rfl (.c rfl (.c rfl (.c rfl (.c rfl (.c rfl (.c rfl (.c rfl (.c rfl (.c rfl (.c rfl (.c rfl (.c rfl (.c rfl (.c rfl (.c rfl (.c rfl (.c rfl (.c rfl (.c rfl (.c rfl (.c rfl (.c rfl (.c rfl (.c rfl (.c rfl (.c rfl (.c rfl (.c rfl (.c rfl (.c rfl (.c rfl (.c rfl (.c rfl .n))))))))))))))))))))))))))))))))))))) (.c 0 rfl (.c 0 rfl (.c 0 rfl (.c 0 rfl (.c 0 rfl (.c 0 rfl (.c 0 rfl (.c 0 rfl (.c 0 rfl .n))))))))) ?_
      rintro q hq
      refine kSeq ?_
      refine kRegion rfl ?_
      refine lV (yLss rfl rfl) rfl rfl ?_
      refine lNil ?_
      refine kThen ?_
      refine kSeq ?_
      refine split (t := 44) rfl (fun h44 => ?_) (fun h44 => ?_)
      · refine kIfT rfl ?_
        refine kSkip ?_
        refine kThen ?_
        refine kSeq ?_
        refine kBlock ?_
        refine kSeq ?_
        by_cases hq0 : q = 0
        · subst hq0
          refine kRegion rfl ?_
          refine lV (yMove rfl) rfl rfl ?_
          refine lV (yIndexV rfl rfl (fun w => IX104_0 w)) rfl rfl ?_
          refine lE rfl ?_
          refine eAlloc Z103 fun n14 => ?_
          refine lV (yAssign rfl) rfl rfl ?_
          refine lE rfl ?_
          refine eStoreL 0 rfl rfl rfl rfl K103 rfl (rfl) ?_
          refine lNil ?_
          refine kThen ?_
          refine kDrawE [(0, none), (5, none), (7, none), (8, none), (13, none), (15, none), (16, none), (20, none)] [] [0, 1, 2, 3, 4, 5, 6, 7, 8, 9, 10, 11, 12, 13, 14, 15, 16, 17, 18, 19, 20, 21, 22] 1 hMix (by kernel_rfl) ?_
          refine .run rfl (yLoadA (vs := [_, _, _]) rfl A103 (cOwn 0 rfl rfl)) rfl rfl ?_
          refine .run rfl (yMove rfl) rfl rfl ?_
          refine .run rfl (yNilCheckP rfl) rfl rfl ?_
          refine .run rfl (yFieldAddr rfl F90_0) rfl rfl ?_
          refine .run rfl (yFieldAddr rfl F26_1) rfl rfl ?_
          refine .run rfl (yLoad1 rfl O24 (cOwn 6 rfl rfl)) rfl rfl ?_
          refine .run rfl (yMove rfl) rfl rfl ?_
          refine .run rfl (yIndexS  rfl rfl S24 (hm.r) (hi)) rfl rfl ?_
          refine .run rfl (yLoadA (vs := [_, _, _, _, _, _, _, _, _]) rfl A58 (cSl0 (hm.r) (hi) rfl)) rfl rfl ?_
          refine .run rfl (yMove rfl) rfl rfl ?_
          refine .run rfl (yNilCheckP rfl) rfl rfl ?_
          refine .run rfl (yFieldAddr rfl F90_0) rfl rfl ?_
          refine .run rfl (yFieldAddr rfl F26_1) rfl rfl ?_
          refine .run rfl (yLoad1 rfl O24 (cOwn 6 rfl rfl)) rfl rfl ?_
          refine .run rfl (yMove rfl) rfl rfl ?_
          refine .run rfl (yIndexS  rfl rfl S24 (hm.r) (hk)) rfl rfl ?_
          refine .run rfl (yLoadA (vs := [_, _, _, _, _, _, _, _, _]) rfl A58 (cSl0 (hm.r) (hk) rfl)) rfl rfl ?_
          refine .run rfl (yMove rfl) rfl rfl ?_
          refine .run rfl (yMove rfl) rfl rfl ?_
          refine .run rfl (yIndexAr rfl rfl R97 (by omega) (by omega)) rfl rfl ?_
          refine .run rfl (yLoadA (vs := [_, _]) rfl A23 (cOwn 1 rfl rfl)) rfl rfl ?_
          refine .run rfl (yMove rfl) rfl rfl ?_
          refine .run rfl (yIndexAr rfl rfl R96 (by omega) (by omega)) rfl rfl ?_
          refine .done ?_
          refine effStep 23 [] (by kernel_rfl) closedSt (hLeft [0, 5, 7, 8, 13, 15, 16, 20] (by kernel_rfl) (.c (fun _ _ hs => hs.ef) (.c (fun _ _ hs => hs.ef) (.c (fun _ _ hs => hs.ef) (.c (fun _ _ hs => hs.ef) (.c (fun _ _ hs => hs.ef) (.c (fun _ _ hs => hs.ef) (.c (fun _ _ hs => hs.ef) (.c (fun _ _ hs => hs.ef) .n))))))))) ?_
          refine .c ?_ .n
          refine effOne rfl (gNone rfl (eCallW 9 rfl rfl (.c rfl (.c rfl (.c rfl (.c rfl (.c rfl (.c rfl .n)))))) C70 (fun w hw hb => apartW_any pb n10 false _ _ _ (cornP p false ((scalesP p (knownP p)).getD j 0) (knownP p)) b a w (hp.s _ (getD_mem hi star0)) (hp.s _ (getD_mem hk star0)) heo.1 (hcb false) hb) trSelf)) ?_
          refine effDone closedSt (hLeft [] (by kernel_rfl) .n) (by kernel_rfl) ?_
          refine kInN ?_
          refine kThen ?_
          refine kRegion rfl ?_
          refine lV (yAdd rfl rfl (by omega)) rfl rfl ?_
          refine lV (yMove rfl) rfl rfl ?_
          refine lNil ?_
          exact kRoundX 1 (by omega) (by omega) rfl (.c rfl .n) (.c rfl (.c rfl (.c rfl (.c rfl (.c rfl (.c rfl (.c rfl (.c rfl (.c rfl (.c rfl (.c rfl (.c rfl (.c rfl (.c rfl (.c rfl (.c rfl (.c rfl (.c rfl (.c rfl (.c rfl (.c rfl (.c rfl (.c rfl (.c rfl (.c rfl (.c rfl (.c rfl (.c rfl (.c rfl (.c rfl (.c rfl (.c rfl (.c rfl (.c rfl (.c rfl (.c rfl (.c rfl .n))))))))))))))))))))))))))))))))))))) (.c 1 rfl (.c 1 rfl (.c 1 rfl (.c 1 rfl (.c 1 rfl (.c 1 rfl (.c 1 rfl (.c 1 rfl (.c 1 rfl .n)))))))))
        · obtain rfl : q = 1 := by omega
          refine kRegion rfl ?_
          refine lV (yMove rfl) rfl rfl ?_
          refine lV (yIndexV rfl rfl (fun w => IX104_1 w)) rfl rfl ?_
          refine lE rfl ?_
          refine eAlloc Z103 fun n14 => ?_
          refine lV (yAssign rfl) rfl rfl ?_
          refine lE rfl ?_
          refine eStoreL 0 rfl rfl rfl rfl K103 rfl (rfl) ?_
          refine lNil ?_
          refine kThen ?_
          refine kDrawE [(0, none), (5, none), (7, none), (8, none), (13, none), (15, none), (16, none), (20, none)] [] [0, 1, 2, 3, 4, 5, 6, 7, 8, 9, 10, 11, 12, 13, 14, 15, 16, 17, 18, 19, 20, 21, 22] 1 hMix (by kernel_rfl) ?_
          refine .run rfl (yLoadA (vs := [_, _, _]) rfl A103 (cOwn 0 rfl rfl)) rfl rfl ?_
          refine .run rfl (yMove rfl) rfl rfl ?_
          refine .run rfl (yNilCheckP rfl) rfl rfl ?_
          refine .run rfl (yFieldAddr rfl F90_0) rfl rfl ?_
          refine .run rfl (yFieldAddr rfl F26_1) rfl rfl ?_
          refine .run rfl (yLoad1 rfl O24 (cOwn 6 rfl rfl)) rfl rfl ?_
          refine .run rfl (yMove rfl) rfl rfl ?_
          refine .run rfl (yIndexS  rfl rfl S24 (hm.r) (hi)) rfl rfl ?_
          refine .run rfl (yLoadA (vs := [_, _, _, _, _, _, _, _, _]) rfl A58 (cSl0 (hm.r) (hi) rfl)) rfl rfl ?_
          refine .run rfl (yMove rfl) rfl rfl ?_
          refine .run rfl (yNilCheckP rfl) rfl rfl ?_
          refine .run rfl (yFieldAddr rfl F90_0) rfl rfl ?_
          refine .run rfl (yFieldAddr rfl F26_1) rfl rfl ?_
          refine .run rfl (yLoad1 rfl O24 (cOwn 6 rfl rfl)) rfl rfl ?_
          refine .run rfl (yMove rfl) rfl rfl ?_
          refine .run rfl (yIndexS  rfl rfl S24 (hm.r) (hk)) rfl rfl ?_
          refine .run rfl (yLoadA (vs := [_, _, _, _, _, _, _, _, _]) rfl A58 (cSl0 (hm.r) (hk) rfl)) rfl rfl ?_
          refine .run rfl (yMove rfl) rfl rfl ?_
          refine .run rfl (yMove rfl) rfl rfl ?_
          refine .run rfl (yIndexAr rfl rfl R97 (by omega) (by omega)) rfl rfl ?_
          refine .run rfl (yLoadA (vs := [_, _]) rfl A23 (cOwn 1 rfl rfl)) rfl rfl ?_
          refine .run rfl (yMove rfl) rfl rfl ?_
          refine .run rfl (yIndexAr rfl rfl R96 (by omega) (by omega)) rfl rfl ?_
          refine .done ?_
          refine effStep 23 [] (by kernel_rfl) closedSt (hLeft [0, 5, 7, 8, 13, 15, 16, 20] (by kernel_rfl) (.c (fun _ _ hs => hs.ef) (.c (fun _ _ hs => hs.ef) (.c (fun _ _ hs => hs.ef) (.c (fun _ _ hs => hs.ef) (.c (fun _ _ hs => hs.ef) (.c (fun _ _ hs => hs.ef) (.c (fun _ _ hs => hs.ef) (.c (fun _ _ hs => hs.ef) .n))))))))) ?_
          refine .c ?_ .n
          refine effOne rfl (gNone rfl (eCallW 9 rfl rfl (.c rfl (.c rfl (.c rfl (.c rfl (.c rfl (.c rfl .n)))))) C70 (fun w hw hb => apartW_any pb n10 true _ _ _ (cornP p true ((scalesP p (knownP p)).getD j 0) (knownP p)) _ b w (hp.s _ (getD_mem hi star0)) (hp.s _ (getD_mem hk star0)) heo.1 (hcb true) hb) trSelf)) ?_
          refine effDone closedSt (hLeft [] (by kernel_rfl) .n) (by kernel_rfl) ?_
          refine kInN ?_
          refine kThen ?_
          refine kRegion rfl ?_
          refine lV (yAdd rfl rfl (by omega)) rfl rfl ?_
          refine lV (yMove rfl) rfl rfl ?_
          refine lNil ?_
          exact kRoundX 2 (by omega) (by omega) rfl (.c rfl .n) (.c rfl (.c rfl (.c rfl (.c rfl (.c rfl (.c rfl (.c rfl (.c rfl (.c rfl (.c rfl (.c rfl (.c rfl (.c rfl (.c rfl (.c rfl (.c rfl (.c rfl (.c rfl (.c rfl (.c rfl (.c rfl (.c rfl (.c rfl (.c rfl (.c rfl (.c rfl (.c rfl (.c rfl (.c rfl (.c rfl (.c rfl (.c rfl (.c rfl (.c rfl (.c rfl (.c rfl (.c rfl .n))))))))))))))))))))))))))))))))))))) (.c 1 rfl (.c 1 rfl (.c 1 rfl (.c 1 rfl (.c 1 rfl (.c 1 rfl (.c 1 rfl (.c 1 rfl (.c 1 rfl .n)))))))))
      · refine kIfF rfl ?_
        refine kExit ?_
        refine kThenX ?_
        refine kThenX ?_
        refine kInX ?_
        refine kInN ?_
        obtain rfl : q = 2 := by omega
        exact kRoundX (seen.push j, (apartQ p i k false ((scalesP p (knownP p)).getD j 0)).foldl keepE a, (apartQ p i k true ((scalesP p (knownP p)).getD j 0)).foldl keepE b) (⟨seen_push hsn hjl, SeenS.push j ha, SeenS.push j hb⟩) (leftN_push hjl hsj) rfl .n (.c rfl (.c rfl (.c rfl (.c rfl (.c rfl (.c rfl (.c rfl (.c rfl (.c rfl (.c rfl (.c rfl (.c rfl (.c rfl (.c rfl (.c rfl (.c rfl (.c rfl (.c rfl (.c rfl (.c rfl (.c rfl (.c rfl (.c rfl (.c rfl (.c rfl (.c rfl (.c rfl (.c rfl .n)))))))))))))))))))))))))))) (.c 1 rfl (.c 1 rfl (.c 1 rfl (.c 1 rfl (.c 1 rfl (.c 1 rfl (.c 1 rfl (.c 1 rfl .n))))))))
theorem apart_any (y : Option Addr × Nat) (p : Plt) (a b : Int) (w : World) (hm : InP w y p) (hL : p.st.length ≤ 1000000) : Calls Try.prog 21 [.agg (pltC y p).toArray, i64 a, i64 b].toArray w (Ret w (outC2 (apartE p a b))) := by
  by_cases h : truthE p (isStarB p a && isStarB p b) = 0
  · have h1 := (truthE_ok h).2.1
    rw [Bool.and_eq_true] at h1
    have h2 := of_decide_eq_true h1.1
    have h3 := of_decide_eq_true h1.2
    obtain ⟨i, rfl⟩ := Int.eq_ofNat_of_zero_le h2.1
    obtain ⟨k, rfl⟩ := Int.eq_ofNat_of_zero_le h3.1
    exact apart_ok y p i k w hm (by omega) (by omega) h
  · exact apart_bad y p a b w hm hL h
end Go.Proofs.Ytlcdohhhhlhpmaa
