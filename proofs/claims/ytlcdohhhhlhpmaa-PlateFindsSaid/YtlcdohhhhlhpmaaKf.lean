/-
  Walks: where the document finds a place of the sky.
-/
import Derived.Test.YtlcdohhhhlhpmaaKe
namespace Go.Proofs.Ytlcdohhhhlhpmaa
open ZW

def eIn (c : Int × Int) (goal s : Int) (e : Ends) (n : Nat) : Ends := (filX c goal s n).foldl keepE e
theorem eIn_succ (c : Int × Int) (goal s : Int) (e : Ends) (n : Nat) : eIn c goal s e (n + 1) = if inF c goal s n = true then keepE (eIn c goal s e n) (n : Int) else eIn c goal s e n := by
  unfold eIn filX
  rw [List.range_succ, List.filter_append, List.map_append, List.foldl_append]
  by_cases h : inF c goal s n = true
  · rw [if_pos h, List.filter_cons_of_pos h]; rfl
  · rw [if_neg h, List.filter_cons_of_neg h]; rfl
def eSc (p : Plt) (d : Bool) (goal : Int) (n : Nat) : Ends := (List.range n).foldl (fun e j => eIn (cornP p d ((scalesP p (knownP p)).getD j 0) (knownP p)) goal ((scalesP p (knownP p)).getD j 0) e 32769) end0
theorem eSc_succ (p : Plt) (d : Bool) (goal : Int) (n : Nat) : eSc p d goal (n + 1) = eIn (cornP p d ((scalesP p (knownP p)).getD n 0) (knownP p)) goal ((scalesP p (knownP p)).getD n 0) (eSc p d goal n) 32769 := range_foldl_succ _ _ _
theorem eSc_all {p : Plt} (hp : PltOk p) (d : Bool) (goal : Int) : eSc p d goal (scalesP p (knownP p)).length = findH p d goal := by
  rw [← find_doc hp]
  exact foldl_flat (fun s => filX (cornP p d s (knownP p)) goal s 32769) (scalesP p (knownP p)) end0
theorem keep_hull (e : Ends) (x : Int) : hullV (e.lo, e.hi) (x, x) (!e.some) = ((keepE e x).lo, (keepE e x).hi) ∧ (keepE e x).some = true := by
  unfold hullV keepE
  cases h : e.some <;> simp
set_option maxRecDepth 100000 in
set_option maxHeartbeats 4000000 in
theorem rfind_bad (y : Option Addr × Nat) (p : Plt) (e n : Int) (w : World) (hm : InP w y p) (hL : p.st.length ≤ 30) (h : toldE p (isSkyB e && isSkyB n) ≠ 0) : Calls Try.prog 25 [.agg (pltC y p).toArray, i64 e, i64 n].toArray w (Ret w (outC2 (findE p e n))) := by
  have e0 : findE p e n = ((0, 0), (0, 0), toldE p (isSkyB e && isSkyB n)) := by unfold findE; rw [if_pos h]
  rw [e0]
  by_cases hb : isSkyB e = true
  · rw [hb] at h ⊢
    refine fEnter Try.func25 rfl Try.ntmps25 rfl ?_
    refine kSeq ?_
    refine kRegion rfl ?_
    refine lE rfl ?_
    refine eBoxA rfl fun n3 => ?_
    refine lE rfl ?_
    refine eAlloc Z23 fun n6 => ?_
    refine lE rfl ?_
    refine eAlloc Z23 fun n7 => ?_
    refine lV (yAssign rfl) rfl rfl ?_
    refine lNil ?_
    refine kThen ?_
    refine kSeq ?_
    refine kDrawE [(0, none), (2, none), (5, none), (7, none)] [] [0, 1, 2, 3, 4, 5, 6, 7, 8, 9, 10, 11, 12] 0 hMix (by kernel_rfl) ?_
    refine .run rfl (yLoadA (vs := [_, _, _]) rfl A26 (cOwn 2 rfl rfl)) rfl rfl ?_
    refine .run rfl (yMove rfl) rfl rfl ?_
    refine .run rfl (yvIs (c := true) (yCall rfl (.c rfl (.c rfl (.c rfl .n))) C77 (fun w hw => rin_any _ _ _ w)) (hb)) rfl rfl ?_
    refine .run rfl (yMove rfl) rfl rfl ?_
    refine .runG rfl (yMove rfl) rfl rfl rfl rfl ?_
    refine .runG rfl (yCall rfl (.c rfl (.c rfl (.c rfl .n))) C77 (fun w hw => rin_any _ _ _ w)) rfl rfl rfl rfl ?_
    refine .run rfl (yPickT rfl rfl) rfl rfl ?_
    refine .run rfl (yCall rfl (.c rfl (.c rfl .n)) C60 (fun w hw => rdoubt_bad y p (isSkyB n) w (hm.eff0 hw) hL h)) rfl rfl ?_
    refine .run rfl (yMove rfl) rfl rfl ?_
    refine .run rfl (yExtract rfl rfl) rfl rfl ?_
    refine .run rfl (yExtract rfl rfl) rfl rfl ?_
    refine .run rfl (yAssign rfl) rfl rfl ?_
    refine .run rfl (yAssign rfl) rfl rfl ?_
    refine .done ?_
    refine effDone closedSt (hLeft [0, 2, 5, 7] (by kernel_rfl) (.c (fun _ _ hs => hs.ef) (.c (fun _ _ hs => hs.ef) (.c (fun _ _ hs => hs.ef) (.c (fun _ _ hs => hs.ef) .n))))) (by kernel_rfl) ?_
    refine kThen ?_
    refine kSeq ?_
    refine kSeq ?_
    refine kRegion rfl ?_
    refine lV (yMove rfl) rfl rfl ?_
    refine lV (yNeq rfl rfl) rfl rfl ?_
    refine known (t := 30) rfl (h) ?_
    refine lNil ?_
    refine kThen ?_
    refine kIfT rfl ?_
    refine kSeq ?_
    refine kRegion rfl ?_
    refine lV (yBuild .n (fun w => B23_ w)) rfl rfl ?_
    refine lV (yBuild .n (fun w => B23_ w)) rfl rfl ?_
    refine lV (yMove rfl) rfl rfl ?_
    refine lE rfl ?_
    refine eStoreL 1 rfl rfl rfl rfl K23 rfl (rfl) ?_
    refine lE rfl ?_
    refine eStoreL 0 rfl rfl rfl rfl K23 rfl (rfl) ?_
    refine lV (yAssign rfl) rfl rfl ?_
    refine lNil ?_
    refine kThen ?_
    refine kRet ?_
    refine kThenR ?_
    refine fRet rfl (.cA (us := [_, _]) rfl A23 (cOwn 1 rfl rfl) (.cA (us := [_, _]) rfl A23 (cOwn 0 rfl rfl) (.t rfl .n))) (endRet ?_)
    rfl
  · have hb : isSkyB e = false := by simpa using hb
    rw [hb] at h ⊢
    refine fEnter Try.func25 rfl Try.ntmps25 rfl ?_
    refine kSeq ?_
    refine kRegion rfl ?_
    refine lE rfl ?_
    refine eBoxA rfl fun n3 => ?_
    refine lE rfl ?_
    refine eAlloc Z23 fun n6 => ?_
    refine lE rfl ?_
    refine eAlloc Z23 fun n7 => ?_
    refine lV (yAssign rfl) rfl rfl ?_
    refine lNil ?_
    refine kThen ?_
    refine kSeq ?_
    refine kDrawE [(0, none), (2, none), (7, none)] [] [0, 1, 2, 3, 4, 5, 6, 7, 8, 9, 10, 11, 12] 0 hMix (by kernel_rfl) ?_
    refine .run rfl (yLoadA (vs := [_, _, _]) rfl A26 (cOwn 2 rfl rfl)) rfl rfl ?_
    refine .run rfl (yMove rfl) rfl rfl ?_
    refine .run rfl (yvIs (c := false) (yCall rfl (.c rfl (.c rfl (.c rfl .n))) C77 (fun w hw => rin_any _ _ _ w)) (hb)) rfl rfl ?_
    refine .run rfl (yMove rfl) rfl rfl ?_
    refine .skip rfl rfl rfl rfl rfl rfl ?_
    refine .skip rfl rfl rfl rfl rfl rfl ?_
    refine .run rfl (yPickF rfl rfl) rfl rfl ?_
    refine .run rfl (yCall rfl (.c rfl (.c rfl .n)) C60 (fun w hw => rdoubt_bad y p false w (hm.eff0 hw) hL h)) rfl rfl ?_
    refine .run rfl (yMove rfl) rfl rfl ?_
    refine .run rfl (yExtract rfl rfl) rfl rfl ?_
    refine .run rfl (yExtract rfl rfl) rfl rfl ?_
    refine .run rfl (yAssign rfl) rfl rfl ?_
    refine .run rfl (yAssign rfl) rfl rfl ?_
    refine .done ?_
    refine effDone closedSt (hLeft [0, 2, 7] (by kernel_rfl) (.c (fun _ _ hs => hs.ef) (.c (fun _ _ hs => hs.ef) (.c (fun _ _ hs => hs.ef) .n)))) (by kernel_rfl) ?_
    refine kThen ?_
    refine kSeq ?_
    refine kSeq ?_
    refine kRegion rfl ?_
    refine lV (yMove rfl) rfl rfl ?_
    refine lV (yNeq rfl rfl) rfl rfl ?_
    refine known (t := 30) rfl (h) ?_
    refine lNil ?_
    refine kThen ?_
    refine kIfT rfl ?_
    refine kSeq ?_
    refine kRegion rfl ?_
    refine lV (yBuild .n (fun w => B23_ w)) rfl rfl ?_
    refine lV (yBuild .n (fun w => B23_ w)) rfl rfl ?_
    refine lV (yMove rfl) rfl rfl ?_
    refine lE rfl ?_
    refine eStoreL 1 rfl rfl rfl rfl K23 rfl (rfl) ?_
    refine lE rfl ?_
    refine eStoreL 0 rfl rfl rfl rfl K23 rfl (rfl) ?_
    refine lV (yAssign rfl) rfl rfl ?_
    refine lNil ?_
    refine kThen ?_
    refine kRet ?_
    refine kThenR ?_
    refine fRet rfl (.cA (us := [_, _]) rfl A23 (cOwn 1 rfl rfl) (.cA (us := [_, _]) rfl A23 (cOwn 0 rfl rfl) (.t rfl .n))) (endRet ?_)
    rfl
end Go.Proofs.Ytlcdohhhhlhpmaa
