/-
  Texts At, Ba, Bb, Bc in one.
-/
import Derived.Test.YtlcdohhhhlhpmaaP4
import Derived.Test.YtlcdohhhhlhpmaaE3
namespace Go.Proofs.Ytlcdohhhhlhpmaa
open ZW

set_option maxRecDepth 100000 in
set_option maxHeartbeats 4000000 in
theorem alive_any (w : World) : Calls Try.prog 14 [].toArray w (Ret w (.bool true)) := by
  refine fEnter Try.func14 rfl Try.ntmps14 rfl ?_
  refine kSeq ?_
  refine kRegion rfl ?_
  refine lV (yAssign rfl) rfl rfl ?_
  refine lNil ?_
  refine kThen ?_
  refine kSeq ?_
  refine kRegion rfl ?_
  refine lE rfl ?_
  refine eCallX rfl .n C32 (fun w hw => sample_any w) fun na _ => ?_
  refine lV (yCall rfl (.c rfl .n) C15 (fun w hw => scale_any (some ⟨na, 0, none⟩, 3) smpP w (inSmp (hw.blkAt 0 rfl)))) rfl rfl ?_
  refine same (t := 24) (u := outC ((599, 601), 0)) rfl (by rw [ex1]) ?_
  refine lV (yMove rfl) rfl rfl ?_
  refine lV (yExtract rfl rfl) rfl rfl ?_
  refine lV (yExtract rfl rfl) rfl rfl ?_
  refine lE rfl ?_
  refine eAlloc Z23 fun n1 => ?_
  refine lE rfl ?_
  refine eStoreL 0 rfl rfl rfl rfl K23 rfl (rfl) ?_
  refine lV (yAssign rfl) rfl rfl ?_
  refine lNil ?_
  refine kThen ?_
  refine kSeq ?_
  refine forgetP [(n1, _)] (.c 0 rfl .n) ?_
  refine kRegion rfl ?_
  refine lE rfl ?_
  refine eCallX rfl .n C32 (fun w hw => sample_any w) fun na _ => ?_
  refine lV (yCall rfl (.c rfl .n) C17 (fun w hw => zero_any (some ⟨na, 0, none⟩, 3) smpP w (inSmp (hw.blkAt 0 rfl)))) rfl rfl ?_
  refine same (t := 29) (u := outC2 ((4998, 5003), (5999, 6003), 0)) rfl (by rw [ex2]) ?_
  refine lV (yMove rfl) rfl rfl ?_
  refine lV (yExtract rfl rfl) rfl rfl ?_
  refine lV (yExtract rfl rfl) rfl rfl ?_
  refine lV (yExtract rfl rfl) rfl rfl ?_
  refine lE rfl ?_
  refine eAlloc Z23 fun n3 => ?_
  refine lE rfl ?_
  refine eAlloc Z23 fun n4 => ?_
  refine lE rfl ?_
  refine eStoreL 1 rfl rfl rfl rfl K23 rfl (rfl) ?_
  refine lE rfl ?_
  refine eStoreL 0 rfl rfl rfl rfl K23 rfl (rfl) ?_
  refine lV (yAssign rfl) rfl rfl ?_
  refine lNil ?_
  refine kThen ?_
  refine kSeq ?_
  refine forgetP [(n4, _), (n3, _), (n1, _)] (.c 0 rfl (.c 0 rfl (.c 1 rfl .n))) ?_
  refine kRegion rfl ?_
  refine lE rfl ?_
  refine eCallX rfl .n C32 (fun w hw => sample_any w) fun na _ => ?_
  refine lV (yCall rfl (.c rfl (.c rfl .n)) C19 (fun w hw => star_any (some ⟨na, 0, none⟩, 3) smpP 2 w (inSmp (hw.blkAt 0 rfl)) (by decide))) rfl rfl ?_
  refine same (t := 35) (u := outC2 ((6200, 6201), (6900, 6902), 0)) rfl (by rw [ex3]) ?_
  refine lV (yMove rfl) rfl rfl ?_
  refine lV (yExtract rfl rfl) rfl rfl ?_
  refine lV (yExtract rfl rfl) rfl rfl ?_
  refine lV (yExtract rfl rfl) rfl rfl ?_
  refine lE rfl ?_
  refine eAlloc Z23 fun n6 => ?_
  refine lE rfl ?_
  refine eAlloc Z23 fun n7 => ?_
  refine lE rfl ?_
  refine eStoreL 1 rfl rfl rfl rfl K23 rfl (rfl) ?_
  refine lE rfl ?_
  refine eStoreL 0 rfl rfl rfl rfl K23 rfl (rfl) ?_
  refine lV (yAssign rfl) rfl rfl ?_
  refine lNil ?_
  refine kThen ?_
  refine kSeq ?_
  refine forgetP [(n7, _), (n6, _), (n4, _), (n3, _), (n1, _)] (.c 0 rfl (.c 0 rfl (.c 1 rfl (.c 1 rfl (.c 1 rfl .n))))) ?_
  refine kRegion rfl ?_
  refine lE rfl ?_
  refine eCallX rfl .n C32 (fun w hw => sample_any w) fun na _ => ?_
  refine lV (yCall rfl (.c rfl (.c rfl (.c rfl .n))) C21 (fun w hw => apart_any (some ⟨na, 0, none⟩, 3) smpP 0 2 w (inSmp (hw.blkAt 0 rfl)) (by decide))) rfl rfl ?_
  refine same (t := 41) (u := outC2 ((599, 600), (-301, -300), 0)) rfl (by rw [ex4]) ?_
  refine lV (yMove rfl) rfl rfl ?_
  refine lV (yExtract rfl rfl) rfl rfl ?_
  refine lV (yExtract rfl rfl) rfl rfl ?_
  refine lV (yExtract rfl rfl) rfl rfl ?_
  refine lE rfl ?_
  refine eAlloc Z23 fun n9 => ?_
  refine lE rfl ?_
  refine eAlloc Z23 fun n10 => ?_
  refine lE rfl ?_
  refine eStoreL 1 rfl rfl rfl rfl K23 rfl (rfl) ?_
  refine lE rfl ?_
  refine eStoreL 0 rfl rfl rfl rfl K23 rfl (rfl) ?_
  refine lV (yAssign rfl) rfl rfl ?_
  refine lNil ?_
  refine kThen ?_
  refine kSeq ?_
  refine forgetP [(n10, _), (n9, _), (n7, _), (n6, _), (n4, _), (n3, _), (n1, _)] (.c 0 rfl (.c 0 rfl (.c 1 rfl (.c 1 rfl (.c 1 rfl (.c 1 rfl (.c 1 rfl .n))))))) ?_
  refine kRegion rfl ?_
  refine lE rfl ?_
  refine eCallX rfl .n C32 (fun w hw => sample_any w) fun na _ => ?_
  refine lV (yCall rfl (.c rfl (.c rfl (.c rfl .n))) C24 (fun w hw => find_any (some ⟨na, 0, none⟩, 3) smpP 6200 6900 w (inSmp (hw.blkAt 0 rfl)))) rfl rfl ?_
  refine same (t := 47) (u := outC2 ((1999, 2001), (1496, 1501), 0)) rfl (by rw [ex5]) ?_
  refine lV (yMove rfl) rfl rfl ?_
  refine lV (yExtract rfl rfl) rfl rfl ?_
  refine lV (yExtract rfl rfl) rfl rfl ?_
  refine lV (yExtract rfl rfl) rfl rfl ?_
  refine lE rfl ?_
  refine eAlloc Z23 fun n12 => ?_
  refine lE rfl ?_
  refine eAlloc Z23 fun n13 => ?_
  refine lE rfl ?_
  refine eStoreL 1 rfl rfl rfl rfl K23 rfl (rfl) ?_
  refine lE rfl ?_
  refine eStoreL 0 rfl rfl rfl rfl K23 rfl (rfl) ?_
  refine lV (yAssign rfl) rfl rfl ?_
  refine lNil ?_
  refine kThen ?_
  refine kSeq ?_
  refine forgetP [(n13, _), (n12, _), (n10, _), (n9, _), (n7, _), (n6, _), (n4, _), (n3, _), (n1, _)] (.c 0 rfl (.c 0 rfl (.c 1 rfl (.c 1 rfl (.c 1 rfl (.c 1 rfl (.c 1 rfl (.c 1 rfl (.c 1 rfl .n))))))))) ?_
  refine kRegion rfl ?_
  refine lE rfl ?_
  refine eCallX rfl .n C33 (fun w hw => other_any w) fun na _ => ?_
  refine lV (yCall rfl (.c rfl .n) C26 (fun w hw => clash_any (some ⟨na, 0, none⟩, 3) othP w (inOth (hw.blkAt 0 rfl)))) rfl rfl ?_
  refine same (t := 53) (u := outI (7, 0)) rfl (by rw [ex6]) ?_
  refine lV (yMove rfl) rfl rfl ?_
  refine lV (yExtract rfl rfl) rfl rfl ?_
  refine lV (yExtract rfl rfl) rfl rfl ?_
  refine lV (yAssign rfl) rfl rfl ?_
  refine lV (yAssign rfl) rfl rfl ?_
  refine lNil ?_
  refine kThen ?_
  refine kSeq ?_
  refine forgetP [(n13, _), (n12, _), (n10, _), (n9, _), (n7, _), (n6, _), (n4, _), (n3, _), (n1, _)] (.c 1 rfl (.c 1 rfl (.c 1 rfl (.c 1 rfl (.c 1 rfl (.c 1 rfl (.c 1 rfl (.c 1 rfl (.c 1 rfl .n))))))))) ?_
  refine kRegion rfl ?_
  refine lE rfl ?_
  refine eCallX rfl .n C33 (fun w hw => other_any w) fun na _ => ?_
  refine lV (yCall rfl (.c rfl .n) C28 (fun w hw => drop_any (some ⟨na, 0, none⟩, 3) othP w (inOth (hw.blkAt 0 rfl)))) rfl rfl ?_
  refine same (t := 58) (u := outI (1, 0)) rfl (by rw [ex7]) ?_
  refine lV (yMove rfl) rfl rfl ?_
  refine lV (yExtract rfl rfl) rfl rfl ?_
  refine lV (yExtract rfl rfl) rfl rfl ?_
  refine lV (yAssign rfl) rfl rfl ?_
  refine lV (yAssign rfl) rfl rfl ?_
  refine lNil ?_
  refine kThen ?_
  refine kSeq ?_
  refine forgetP [(n13, _), (n12, _), (n10, _), (n9, _), (n7, _), (n6, _), (n4, _), (n3, _), (n1, _)] (.c 1 rfl (.c 1 rfl (.c 1 rfl (.c 1 rfl (.c 1 rfl (.c 1 rfl (.c 1 rfl (.c 1 rfl (.c 1 rfl .n))))))))) ?_
  refine kRegion rfl ?_
  refine lE rfl ?_
  refine eCallX rfl .n C32 (fun w hw => sample_any w) fun na _ => ?_
  refine lV (yCall rfl (.c rfl .n) C30 (fun w hw => poor_any (some ⟨na, 0, none⟩, 3) smpP w (inSmp (hw.blkAt 0 rfl)))) rfl rfl ?_
  refine same (t := 63) (u := outI2 (0, 5, 0)) rfl (by rw [ex8]) ?_
  refine lV (yMove rfl) rfl rfl ?_
  refine lV (yExtract rfl rfl) rfl rfl ?_
  refine lV (yExtract rfl rfl) rfl rfl ?_
  refine lV (yExtract rfl rfl) rfl rfl ?_
  refine lV (yAssign rfl) rfl rfl ?_
  refine lV (yAssign rfl) rfl rfl ?_
  refine lV (yAssign rfl) rfl rfl ?_
  refine lNil ?_
  refine kThen ?_
  refine kSeq ?_
  refine kSeq ?_
  refine forgetP [(n13, _), (n12, _), (n10, _), (n9, _), (n7, _), (n6, _), (n4, _), (n3, _), (n1, _)] (.c 1 rfl (.c 1 rfl (.c 1 rfl (.c 1 rfl (.c 1 rfl (.c 1 rfl (.c 1 rfl (.c 1 rfl (.c 1 rfl .n))))))))) ?_
  refine kDrawE [(0, none), (1, none), (8, none), (9, none), (13, none), (14, none), (22, none), (23, none), (27, none), (28, none), (36, none), (37, none), (41, none), (42, none)] [] [0, 1, 2, 3, 4, 5, 6, 7, 8, 9, 10, 11, 12, 13, 14, 15, 16, 17, 18, 19, 20, 21, 22, 23, 24, 25, 26, 27, 28, 29, 30, 31, 32, 33, 34, 35, 36, 37, 38, 39, 40, 41, 42, 43, 44, 45, 46, 47, 48] 0 hMix (by kernel_rfl) ?_
  refine .run rfl (yLoadA (vs := [_, _]) rfl A23 (cOwn 8 rfl rfl)) rfl rfl ?_
  refine .run rfl (yCall rfl (.c rfl (.c rfl .n)) C34 (fun w hw => spanL_any _ _ w)) rfl rfl ?_
  refine .run rfl (yvIs (c := false) (yNeAgg rfl rfl G23 (fun w => Q23 w)) (by decide)) rfl rfl ?_
  refine .run rfl (yMove rfl) rfl rfl ?_
  refine .runG rfl (yMove rfl) rfl rfl rfl rfl ?_
  refine .runG rfl (yvFalse (yNeq rfl rfl) (by decide)) rfl rfl rfl rfl ?_
  refine .run rfl (yPickF rfl rfl) rfl rfl ?_
  refine .run rfl (yMove rfl) rfl rfl ?_
  refine .runG rfl (yLoadA (vs := [_, _]) rfl A23 (cOwn 7 rfl rfl)) rfl rfl rfl rfl ?_
  refine .runG rfl (yCall rfl (.c rfl (.c rfl .n)) C34 (fun w hw => spanL_any _ _ w)) rfl rfl rfl rfl ?_
  refine .runG rfl (yvIs (c := false) (yNeAgg rfl rfl G23 (fun w => Q23 w)) (by decide)) rfl rfl rfl rfl ?_
  refine .run rfl (yPickF rfl rfl) rfl rfl ?_
  refine .run rfl (yMove rfl) rfl rfl ?_
  refine .runG rfl (yLoadA (vs := [_, _]) rfl A23 (cOwn 6 rfl rfl)) rfl rfl rfl rfl ?_
  refine .runG rfl (yCall rfl (.c rfl (.c rfl .n)) C34 (fun w hw => spanL_any _ _ w)) rfl rfl rfl rfl ?_
  refine .runG rfl (yvIs (c := false) (yNeAgg rfl rfl G23 (fun w => Q23 w)) (by decide)) rfl rfl rfl rfl ?_
  refine .run rfl (yPickF rfl rfl) rfl rfl ?_
  refine .run rfl (yMove rfl) rfl rfl ?_
  refine .runG rfl (yMove rfl) rfl rfl rfl rfl ?_
  refine .runG rfl (yvFalse (yNeq rfl rfl) (by decide)) rfl rfl rfl rfl ?_
  refine .run rfl (yPickF rfl rfl) rfl rfl ?_
  refine .run rfl (yMove rfl) rfl rfl ?_
  refine .runG rfl (yLoadA (vs := [_, _]) rfl A23 (cOwn 5 rfl rfl)) rfl rfl rfl rfl ?_
  refine .runG rfl (yCall rfl (.c rfl (.c rfl .n)) C34 (fun w hw => spanL_any _ _ w)) rfl rfl rfl rfl ?_
  refine .runG rfl (yvIs (c := false) (yNeAgg rfl rfl G23 (fun w => Q23 w)) (by decide)) rfl rfl rfl rfl ?_
  refine .run rfl (yPickF rfl rfl) rfl rfl ?_
  refine .run rfl (yMove rfl) rfl rfl ?_
  refine .runG rfl (yLoadA (vs := [_, _]) rfl A23 (cOwn 4 rfl rfl)) rfl rfl rfl rfl ?_
  refine .runG rfl (yCall rfl (.c rfl (.c rfl .n)) C34 (fun w hw => spanL_any _ _ w)) rfl rfl rfl rfl ?_
  refine .runG rfl (yvIs (c := false) (yNeAgg rfl rfl G23 (fun w => Q23 w)) (by decide)) rfl rfl rfl rfl ?_
  refine .run rfl (yPickF rfl rfl) rfl rfl ?_
  refine .run rfl (yMove rfl) rfl rfl ?_
  refine .runG rfl (yMove rfl) rfl rfl rfl rfl ?_
  refine .runG rfl (yvFalse (yNeq rfl rfl) (by decide)) rfl rfl rfl rfl ?_
  refine .run rfl (yPickF rfl rfl) rfl rfl ?_
  refine .run rfl (yMove rfl) rfl rfl ?_
  refine .runG rfl (yLoadA (vs := [_, _]) rfl A23 (cOwn 3 rfl rfl)) rfl rfl rfl rfl ?_
  refine .runG rfl (yCall rfl (.c rfl (.c rfl .n)) C34 (fun w hw => spanL_any _ _ w)) rfl rfl rfl rfl ?_
  refine .runG rfl (yvIs (c := false) (yNeAgg rfl rfl G23 (fun w => Q23 w)) (by decide)) rfl rfl rfl rfl ?_
  refine .run rfl (yPickF rfl rfl) rfl rfl ?_
  refine .run rfl (yMove rfl) rfl rfl ?_
  refine .runG rfl (yLoadA (vs := [_, _]) rfl A23 (cOwn 2 rfl rfl)) rfl rfl rfl rfl ?_
  refine .runG rfl (yCall rfl (.c rfl (.c rfl .n)) C34 (fun w hw => spanL_any _ _ w)) rfl rfl rfl rfl ?_
  refine .runG rfl (yvIs (c := false) (yNeAgg rfl rfl G23 (fun w => Q23 w)) (by decide)) rfl rfl rfl rfl ?_
  refine .run rfl (yPickF rfl rfl) rfl rfl ?_
  refine .run rfl (yMove rfl) rfl rfl ?_
  refine .runG rfl (yMove rfl) rfl rfl rfl rfl ?_
  refine .runG rfl (yvFalse (yNeq rfl rfl) (by decide)) rfl rfl rfl rfl ?_
  refine .run rfl (yPickF rfl rfl) rfl rfl ?_
  refine .done ?_
  refine effDone closedSt (hLeft [0, 1, 8, 9, 13, 14, 22, 23, 27, 28, 36, 37, 41, 42] (by kernel_rfl) (.c (fun _ _ hs => hs.ef) (.c (fun _ _ hs => hs.ef) (.c (fun _ _ hs => hs.ef) (.c (fun _ _ hs => hs.ef) (.c (fun _ _ hs => hs.ef) (.c (fun _ _ hs => hs.ef) (.c (fun _ _ hs => hs.ef) (.c (fun _ _ hs => hs.ef) (.c (fun _ _ hs => hs.ef) (.c (fun _ _ hs => hs.ef) (.c (fun _ _ hs => hs.ef) (.c (fun _ _ hs => hs.ef) (.c (fun _ _ hs => hs.ef) (.c (fun _ _ hs => hs.ef) .n))))))))))))))) (by kernel_rfl) ?_
  refine kThen ?_
  refine kIfF rfl ?_
  refine kSkip ?_
  refine kThen ?_
  refine kSeq ?_
  refine kDrawE [(0, none), (1, none), (4, none), (5, none)] [] [0, 1, 2, 3, 4, 5, 6, 7, 8, 9, 10, 11, 12, 13, 14, 15, 16, 17, 18, 19, 20, 21, 22, 23, 24, 25, 26, 27, 28, 29, 30, 31, 32, 33, 34, 35, 36, 37, 38, 39, 40] 0 hMix (by kernel_rfl) ?_
  refine .run rfl (yLoadA (vs := [_, _]) rfl A23 (cOwn 1 rfl rfl)) rfl rfl ?_
  refine .run rfl (yCall rfl (.c rfl (.c rfl .n)) C34 (fun w hw => spanL_any _ _ w)) rfl rfl ?_
  refine .run rfl (yvTrue (yEqAgg rfl rfl G23 (fun w => Q23 w)) (by decide)) rfl rfl ?_
  refine .run rfl (yMove rfl) rfl rfl ?_
  refine .runG rfl (yLoadA (vs := [_, _]) rfl A23 (cOwn 0 rfl rfl)) rfl rfl rfl rfl ?_
  refine .runG rfl (yCall rfl (.c rfl (.c rfl .n)) C34 (fun w hw => spanL_any _ _ w)) rfl rfl rfl rfl ?_
  refine .runG rfl (yvTrue (yEqAgg rfl rfl G23 (fun w => Q23 w)) (by decide)) rfl rfl rfl rfl ?_
  refine .run rfl (yPickT rfl rfl) rfl rfl ?_
  refine .run rfl (yMove rfl) rfl rfl ?_
  refine .runG rfl (yMove rfl) rfl rfl rfl rfl ?_
  refine .runG rfl (yvTrue (yEql rfl rfl) (by decide)) rfl rfl rfl rfl ?_
  refine .run rfl (yPickT rfl rfl) rfl rfl ?_
  refine .run rfl (yMove rfl) rfl rfl ?_
  refine .runG rfl (yMove rfl) rfl rfl rfl rfl ?_
  refine .runG rfl (yvTrue (yEql rfl rfl) (by decide)) rfl rfl rfl rfl ?_
  refine .run rfl (yPickT rfl rfl) rfl rfl ?_
  refine .run rfl (yMove rfl) rfl rfl ?_
  refine .runG rfl (yMove rfl) rfl rfl rfl rfl ?_
  refine .runG rfl (yvTrue (yEql rfl rfl) (by decide)) rfl rfl rfl rfl ?_
  refine .run rfl (yPickT rfl rfl) rfl rfl ?_
  refine .run rfl (yMove rfl) rfl rfl ?_
  refine .runG rfl (yMove rfl) rfl rfl rfl rfl ?_
  refine .runG rfl (yvTrue (yEql rfl rfl) (by decide)) rfl rfl rfl rfl ?_
  refine .run rfl (yPickT rfl rfl) rfl rfl ?_
  refine .run rfl (yMove rfl) rfl rfl ?_
  refine .runG rfl (yMove rfl) rfl rfl rfl rfl ?_
  refine .runG rfl (yvTrue (yEql rfl rfl) (by decide)) rfl rfl rfl rfl ?_
  refine .run rfl (yPickT rfl rfl) rfl rfl ?_
  refine .run rfl (yMove rfl) rfl rfl ?_
  refine .runG rfl (yMove rfl) rfl rfl rfl rfl ?_
  refine .runG rfl (yvTrue (yEql rfl rfl) (by decide)) rfl rfl rfl rfl ?_
  refine .run rfl (yPickT rfl rfl) rfl rfl ?_
  refine .run rfl (yMove rfl) rfl rfl ?_
  refine .runG rfl (yMove rfl) rfl rfl rfl rfl ?_
  refine .runG rfl (yvTrue (yEql rfl rfl) (by decide)) rfl rfl rfl rfl ?_
  refine .run rfl (yPickT rfl rfl) rfl rfl ?_
  refine .run rfl (yMove rfl) rfl rfl ?_
  refine .runG rfl (yMove rfl) rfl rfl rfl rfl ?_
  refine .runG rfl (yvTrue (yEql rfl rfl) (by decide)) rfl rfl rfl rfl ?_
  refine .run rfl (yPickT rfl rfl) rfl rfl ?_
  refine .run rfl (yAssign rfl) rfl rfl ?_
  refine .done ?_
  refine effDone closedSt (hLeft [0, 1, 4, 5] (by kernel_rfl) (.c (fun _ _ hs => hs.ef) (.c (fun _ _ hs => hs.ef) (.c (fun _ _ hs => hs.ef) (.c (fun _ _ hs => hs.ef) .n))))) (by kernel_rfl) ?_
  refine kThen ?_
  refine kRet ?_
  refine fRet rfl (.t rfl .n) (endRet ?_)
  first | rfl | (simp [packV, *]; done)
set_option maxRecDepth 100000 in
set_option maxHeartbeats 4000000 in
theorem names_any (w : World) : Calls Try.prog 5 [].toArray w (Ret w (.bool true)) := by
  refine fEnter Try.func5 rfl Try.ntmps5 rfl ?_
  refine kSeq ?_
  refine kRegion rfl ?_
  refine lV (yAssign rfl) rfl rfl ?_
  refine lNil ?_
  refine kThen ?_
  refine kSeq ?_
  refine kRegion rfl ?_
  refine lE rfl ?_
  refine eCallX rfl .n C32 (fun w hw => sample_any w) fun na _ => ?_
  refine lV (yCall rfl (.c rfl (.c rfl .n)) C19 (fun w hw => star_any (some ⟨na, 0, none⟩, 3) smpP 0 w (inSmp (hw.blkAt 0 rfl)) (by decide))) rfl rfl ?_
  refine same (t := 12) (u := outC2 ((5600, 5602), (7200, 7203), 0)) rfl (by rw [ex9]) ?_
  refine lV (yMove rfl) rfl rfl ?_
  refine lV (yExtract rfl rfl) rfl rfl ?_
  refine lV (yExtract rfl rfl) rfl rfl ?_
  refine lV (yExtract rfl rfl) rfl rfl ?_
  refine lE rfl ?_
  refine eAlloc Z23 fun n1 => ?_
  refine lE rfl ?_
  refine eAlloc Z23 fun n2 => ?_
  refine lE rfl ?_
  refine eStoreL 1 rfl rfl rfl rfl K23 rfl (rfl) ?_
  refine lE rfl ?_
  refine eStoreL 0 rfl rfl rfl rfl K23 rfl (rfl) ?_
  refine lV (yAssign rfl) rfl rfl ?_
  refine lNil ?_
  refine kThen ?_
  refine kSeq ?_
  refine forgetP [(n2, _), (n1, _)] (.c 0 rfl (.c 0 rfl .n)) ?_
  refine kRegion rfl ?_
  refine lE rfl ?_
  refine eCallX rfl .n C32 (fun w hw => sample_any w) fun na _ => ?_
  refine lV (yCall rfl (.c rfl .n) C26 (fun w hw => clash_any (some ⟨na, 0, none⟩, 3) smpP w (inSmp (hw.blkAt 0 rfl)))) rfl rfl ?_
  refine same (t := 18) (u := outI (0, 0)) rfl (by rw [exA]) ?_
  refine lV (yMove rfl) rfl rfl ?_
  refine lV (yExtract rfl rfl) rfl rfl ?_
  refine lV (yExtract rfl rfl) rfl rfl ?_
  refine lV (yAssign rfl) rfl rfl ?_
  refine lV (yAssign rfl) rfl rfl ?_
  refine lNil ?_
  refine kThen ?_
  refine kSeq ?_
  refine forgetP [(n2, _), (n1, _)] (.c 1 rfl (.c 1 rfl .n)) ?_
  refine kRegion rfl ?_
  refine lE rfl ?_
  refine eCallX rfl .n C32 (fun w hw => sample_any w) fun na _ => ?_
  refine lV (yCall rfl (.c rfl .n) C28 (fun w hw => drop_any (some ⟨na, 0, none⟩, 3) smpP w (inSmp (hw.blkAt 0 rfl)))) rfl rfl ?_
  refine same (t := 23) (u := outI (0, 0)) rfl (by rw [exB]) ?_
  refine lV (yMove rfl) rfl rfl ?_
  refine lV (yExtract rfl rfl) rfl rfl ?_
  refine lV (yExtract rfl rfl) rfl rfl ?_
  refine lV (yAssign rfl) rfl rfl ?_
  refine lV (yAssign rfl) rfl rfl ?_
  refine lNil ?_
  refine kThen ?_
  refine kSeq ?_
  refine forgetP [(n2, _), (n1, _)] (.c 1 rfl (.c 1 rfl .n)) ?_
  refine kRegion rfl ?_
  refine lE rfl ?_
  refine eCallX rfl .n C33 (fun w hw => other_any w) fun na _ => ?_
  refine lV (yCall rfl (.c rfl .n) C15 (fun w hw => scale_any (some ⟨na, 0, none⟩, 3) othP w (inOth (hw.blkAt 0 rfl)))) rfl rfl ?_
  refine same (t := 28) (u := outC ((0, 0), 10)) rfl (by rw [exC]) ?_
  refine lV (yMove rfl) rfl rfl ?_
  refine lV (yExtract rfl rfl) rfl rfl ?_
  refine lV (yExtract rfl rfl) rfl rfl ?_
  refine lE rfl ?_
  refine eAlloc Z23 fun n8 => ?_
  refine lE rfl ?_
  refine eStoreL 0 rfl rfl rfl rfl K23 rfl (rfl) ?_
  refine lV (yAssign rfl) rfl rfl ?_
  refine lNil ?_
  refine kThen ?_
  refine kSeq ?_
  refine forgetP [(n8, _), (n2, _), (n1, _)] (.c 0 rfl (.c 1 rfl (.c 1 rfl .n))) ?_
  refine kDrawE [(1, none), (4, none), (5, none), (9, none), (10, none)] [] [0, 1, 2, 3, 4, 5, 6, 7, 8, 9, 10, 11, 12, 13, 14, 15, 16, 17, 18, 19, 20, 21, 22, 23, 24, 25, 26, 27, 28, 29, 30, 31, 32, 33, 34, 35, 36, 37] 0 hMix (by kernel_rfl) ?_
  refine .run rfl (yMove rfl) rfl rfl ?_
  refine .runG rfl (yCall rfl .n C14 (fun w hw => alive_any w)) rfl rfl rfl rfl ?_
  refine .run rfl (yPickT rfl rfl) rfl rfl ?_
  refine .run rfl (yMove rfl) rfl rfl ?_
  refine .runG rfl (yLoadA (vs := [_, _]) rfl A23 (cOwn 2 rfl rfl)) rfl rfl rfl rfl ?_
  refine .runG rfl (yCall rfl (.c rfl (.c rfl .n)) C34 (fun w hw => spanL_any _ _ w)) rfl rfl rfl rfl ?_
  refine .runG rfl (yvTrue (yEqAgg rfl rfl G23 (fun w => Q23 w)) (by decide)) rfl rfl rfl rfl ?_
  refine .run rfl (yPickT rfl rfl) rfl rfl ?_
  refine .run rfl (yMove rfl) rfl rfl ?_
  refine .runG rfl (yLoadA (vs := [_, _]) rfl A23 (cOwn 1 rfl rfl)) rfl rfl rfl rfl ?_
  refine .runG rfl (yCall rfl (.c rfl (.c rfl .n)) C34 (fun w hw => spanL_any _ _ w)) rfl rfl rfl rfl ?_
  refine .runG rfl (yvTrue (yEqAgg rfl rfl G23 (fun w => Q23 w)) (by decide)) rfl rfl rfl rfl ?_
  refine .run rfl (yPickT rfl rfl) rfl rfl ?_
  refine .run rfl (yMove rfl) rfl rfl ?_
  refine .runG rfl (yMove rfl) rfl rfl rfl rfl ?_
  refine .runG rfl (yvTrue (yEql rfl rfl) (by decide)) rfl rfl rfl rfl ?_
  refine .run rfl (yPickT rfl rfl) rfl rfl ?_
  refine .run rfl (yMove rfl) rfl rfl ?_
  refine .runG rfl (yMove rfl) rfl rfl rfl rfl ?_
  refine .runG rfl (yvTrue (yEql rfl rfl) (by decide)) rfl rfl rfl rfl ?_
  refine .run rfl (yPickT rfl rfl) rfl rfl ?_
  refine .run rfl (yMove rfl) rfl rfl ?_
  refine .runG rfl (yMove rfl) rfl rfl rfl rfl ?_
  refine .runG rfl (yvTrue (yEql rfl rfl) (by decide)) rfl rfl rfl rfl ?_
  refine .run rfl (yPickT rfl rfl) rfl rfl ?_
  refine .run rfl (yMove rfl) rfl rfl ?_
  refine .runG rfl (yMove rfl) rfl rfl rfl rfl ?_
  refine .runG rfl (yvTrue (yEql rfl rfl) (by decide)) rfl rfl rfl rfl ?_
  refine .run rfl (yPickT rfl rfl) rfl rfl ?_
  refine .run rfl (yMove rfl) rfl rfl ?_
  refine .runG rfl (yMove rfl) rfl rfl rfl rfl ?_
  refine .runG rfl (yvTrue (yEql rfl rfl) (by decide)) rfl rfl rfl rfl ?_
  refine .run rfl (yPickT rfl rfl) rfl rfl ?_
  refine .run rfl (yMove rfl) rfl rfl ?_
  refine .runG rfl (yMove rfl) rfl rfl rfl rfl ?_
  refine .runG rfl (yvTrue (yEql rfl rfl) (by decide)) rfl rfl rfl rfl ?_
  refine .run rfl (yPickT rfl rfl) rfl rfl ?_
  refine .run rfl (yAssign rfl) rfl rfl ?_
  refine .done ?_
  refine effDone closedSt (hLeft [1, 4, 5, 9, 10] (by kernel_rfl) (.c (fun _ _ hs => hs.ef) (.c (fun _ _ hs => hs.ef) (.c (fun _ _ hs => hs.ef) (.c (fun _ _ hs => hs.ef) (.c (fun _ _ hs => hs.ef) .n)))))) (by kernel_rfl) ?_
  refine kThen ?_
  refine kRet ?_
  refine fRet rfl (.t rfl .n) (endRet ?_)
  first | rfl | (simp [packV, *]; done)
end Go.Proofs.Ytlcdohhhhlhpmaa
namespace Go.Proofs.Ytlcdohhhhlhpmaa
open ZW

theorem popF_zero : ∀ f, popF f 0 = 0
  | 0 => rfl
  | f + 1 => by simp [popF, popF_zero f]
set_option maxRecDepth 100000 in
theorem power_any (n : Nat) (w : World) (hn : n ≤ 61) : Calls Try.prog 84 [i64 (n : Nat)].toArray w (Ret w (i64 ((2 ^ n : Nat) : Int))) := by
  refine fEnter Try.func84 rfl Try.ntmps84 rfl ?_
  refine kSeq ?_
  refine kRegion rfl ?_
  refine lV (yAssign rfl) rfl rfl ?_
  refine lNil ?_
  refine kThen ?_
  refine kSeq ?_
  refine kRegion rfl ?_
  refine lV (yAssign rfl) rfl rfl ?_
  refine lNil ?_
  refine kThen ?_
  refine kSeq ?_
  refine kSeq ?_
  refine kRegion rfl ?_
  refine lV (yAssign rfl) rfl rfl ?_
  refine lNil ?_
  refine kThen ?_
  refine kBlock ?_
  refine kLoopX (ι := Nat) (fun i => i ≤ n) (fun i => [(3, i64 ((2 ^ i : Nat) : Int)), (4, i64 (i : Nat))]) [(0, _), (2, _)] (fun i => []) (fun i => []) [] (fun i => n - i) 0 (Nat.zero_le _) rfl (.c rfl (.c rfl .n)) (.c rfl (.c rfl .n)) .n ?_
  rintro i hi
  refine kSeq ?_
  refine kSeq ?_
  refine kRegion rfl ?_
  refine lV (yMove rfl) rfl rfl ?_
  refine lV (yMove rfl) rfl rfl ?_
  refine lV (yLss rfl rfl) rfl rfl ?_
  refine lNil ?_
  refine kThen ?_
  refine split (t := 7) rfl (fun h7 => ?_) (fun h7 => ?_)
  · refine kIfT rfl ?_
    refine kSkip ?_
    refine kThen ?_
    refine kSeq ?_
    refine kBlock ?_
    have hp : 2 ^ i ≤ 2 ^ 60 := Nat.pow_le_pow_right (by omega) (by omega)
    have hp0 : (0 : Int) ≤ ((2 ^ i : Nat) : Int) := Int.natCast_nonneg _
    have hp1 : ((2 ^ i : Nat) : Int) ≤ ((2 ^ 60 : Nat) : Int) := Int.ofNat_le.2 hp
    rw [show ((2 ^ 60 : Nat) : Int) = 1152921504606846976 from by decide] at hp1
    refine kRegion rfl ?_
    refine lV (yMove rfl) rfl rfl ?_
    refine lV (yMul rfl rfl (by omega)) rfl rfl ?_
    refine same (t := 11) (u := i64 ((2 ^ (i + 1) : Nat) : Int)) rfl (by rw [Nat.pow_succ, Nat.mul_comm]; rfl) ?_
    refine lV (yAssign rfl) rfl rfl ?_
    refine lNil ?_
    refine kInN ?_
    refine kThen ?_
    refine kRegion rfl ?_
    refine lV (yMove rfl) rfl rfl ?_
    refine lV (yAdd rfl rfl (by omega)) rfl rfl ?_
    refine lV (yAssign rfl) rfl rfl ?_
    refine lNil ?_
    exact kRoundX (i + 1) (by omega) (by omega) rfl (.c rfl (.c rfl .n)) (.c rfl (.c rfl .n)) .n
  · refine kIfF rfl ?_
    refine kExit ?_
    refine kThenX ?_
    refine kThenX ?_
    refine kInX ?_
    refine kThen ?_
    refine kSeq ?_
    refine kRegion rfl ?_
    refine lV (yMove rfl) rfl rfl ?_
    refine lV (yAssign rfl) rfl rfl ?_
    refine lNil ?_
    refine kThen ?_
    refine kRet ?_
    refine fRet rfl (.t rfl .n) (endRet ?_)
    obtain rfl : i = n := by omega
    rfl
set_option maxRecDepth 100000 in
theorem has_any (S i : Nat) (w : World) (hi : i ≤ 61) (hS : S < 2 ^ 62) : Calls Try.prog 102 [i64 (S : Nat), i64 (i : Nat)].toArray w (Ret w (.bool (S.testBit i))) := by
  have hp : 0 < 2 ^ i := Nat.two_pow_pos i
  refine fEnter Try.func102 rfl Try.ntmps102 rfl ?_
  refine kSeq ?_
  refine kRegion rfl ?_
  refine lV (yAssign rfl) rfl rfl ?_
  refine lNil ?_
  refine kThen ?_
  refine kSeq ?_
  refine kRegion rfl ?_
  refine lV (yMove rfl) rfl rfl ?_
  refine lV (yMove rfl) rfl rfl ?_
  refine lV (yCall rfl (.c rfl .n) C84 (fun w hw => power_any i w hi)) rfl rfl ?_
  refine lV (yQuo rfl rfl (by omega) (by omega) (by omega)) rfl rfl ?_
  refine lV (yRem rfl rfl (Int.ediv_nonneg (Int.natCast_nonneg _) (Int.natCast_nonneg _)) (by omega)) rfl rfl ?_
  refine lV (yEql rfl rfl) rfl rfl ?_
  refine lV (yAssign rfl) rfl rfl ?_
  refine lNil ?_
  refine kThen ?_
  refine kRet ?_
  refine fRet rfl (.t rfl .n) (endRet ?_)
  rw [Nat.testBit_eq_decide_div_mod_eq]
  simp only [packV]
  congr 1
  exact decide_eq_decide.2 (by omega)
theorem szStep {S f r n : Nat} (hf : f ≤ 13) (hr : r < 2 ^ f) (he : n + popF f r = popc S) (hn : n + f ≤ 13) (h : 0 < (r : Int)) :
    f - 1 ≤ 13 ∧ r / 2 < 2 ^ (f - 1) ∧ n + r % 2 + popF (f - 1) (r / 2) = popc S ∧ n + r % 2 + (f - 1) ≤ 13 := by
  cases f with
  | zero => simp at hr; omega
  | succ f =>
    rw [Nat.pow_succ] at hr
    simp only [popF, Nat.add_sub_cancel] at he ⊢
    have : r % 2 < 2 := Nat.mod_lt _ (by decide)
    exact ⟨by omega, by omega, by omega, by omega⟩
set_option maxRecDepth 100000 in
theorem size_any (S : Nat) (w : World) (hS : S < 8192) : Calls Try.prog 43 [i64 (S : Nat)].toArray w (Ret w (i64 (popc S : Nat))) := by
  refine fEnter Try.func43 rfl Try.ntmps43 rfl ?_
  refine kSeq ?_
  refine kRegion rfl ?_
  refine lV (yAssign rfl) rfl rfl ?_
  refine lNil ?_
  refine kThen ?_
  refine kSeq ?_
  refine kRegion rfl ?_
  refine lV (yAssign rfl) rfl rfl ?_
  refine lNil ?_
  refine kThen ?_
  refine kSeq ?_
  refine kBlock ?_
  refine kLoopX (ι := Nat × Nat × Nat) (fun x => x.1 ≤ 13 ∧ x.2.1 < 2 ^ x.1 ∧ x.2.2 + popF x.1 x.2.1 = popc S ∧ x.2.2 + x.1 ≤ 13) (fun x => [(0, i64 (x.2.1 : Nat)), (3, i64 (x.2.2 : Nat))]) [(2, _)] (fun x => []) (fun x => []) [] (fun x => x.2.1) (13, S, 0) (⟨Nat.le_refl _, hS, Nat.zero_add _, Nat.le_refl _⟩) rfl (.c rfl (.c rfl .n)) (.c rfl .n) .n ?_
  rintro ⟨f, r, n⟩ ⟨hf, hr, he, hn⟩
  dsimp only at hf hr he hn ⊢
  refine kSeq ?_
  refine kSeq ?_
  refine kRegion rfl ?_
  refine lV (yMove rfl) rfl rfl ?_
  refine lV (yGtr rfl rfl) rfl rfl ?_
  refine lNil ?_
  refine kThen ?_
  refine split (t := 5) rfl (fun h5 => ?_) (fun h5 => ?_)
  · refine kIfT rfl ?_
    refine kSkip ?_
    refine kThen ?_
    refine kBlock ?_
    refine kSeq ?_
    have hr13 : 2 ^ f ≤ 2 ^ 13 := Nat.pow_le_pow_right (by omega) hf
    refine kRegion rfl ?_
    refine lV (yMove rfl) rfl rfl ?_
    refine lV (yMove rfl) rfl rfl ?_
    refine lV (yRem rfl rfl (by omega) (by omega)) rfl rfl ?_
    refine lV (yAdd rfl rfl (by omega)) rfl rfl ?_
    refine same (t := 9) (u := i64 ((n + r % 2 : Nat) : Int)) rfl (by congr 1) ?_
    refine lV (yAssign rfl) rfl rfl ?_
    refine lNil ?_
    refine kThen ?_
    refine kRegion rfl ?_
    refine lV (yMove rfl) rfl rfl ?_
    refine lV (yQuo rfl rfl (by omega) (by omega) (by omega)) rfl rfl ?_
    refine same (t := 11) (u := i64 ((r / 2 : Nat) : Int)) rfl (by congr 1) ?_
    refine lV (yAssign rfl) rfl rfl ?_
    refine lNil ?_
    refine kInN ?_
    exact kRoundX (f - 1, r / 2, n + r % 2) (szStep hf hr he hn h5) (by dsimp only; omega) rfl (.c rfl (.c rfl .n)) (.c rfl .n) .n
  · refine kIfF rfl ?_
    refine kExit ?_
    refine kThenX ?_
    refine kThenX ?_
    refine kInX ?_
    refine kThen ?_
    refine kSeq ?_
    refine kRegion rfl ?_
    refine lV (yMove rfl) rfl rfl ?_
    refine lV (yAssign rfl) rfl rfl ?_
    refine lNil ?_
    refine kThen ?_
    refine kRet ?_
    refine fRet rfl (.t rfl .n) (endRet ?_)
    obtain rfl : r = 0 := by omega
    rw [popF_zero] at he
    rw [← he]
    rfl

set_option maxRecDepth 100000 in
theorem rspan_any (x : Int × Int) (a b : Int) (w : World) : Calls Try.prog 72 [.agg (rowE x).toArray, i64 a, i64 b].toArray w (Ret w (.bool (decide (spanOk a b x)))) := by
  refine fEnter Try.func72 rfl Try.ntmps72 rfl ?_
  refine kSeq ?_
  refine kRegion rfl ?_
  refine lE rfl ?_
  refine eBoxA rfl fun n3 => ?_
  refine lV (yAssign rfl) rfl rfl ?_
  refine lNil ?_
  refine kThen ?_
  refine kSeq ?_
  refine kRegion rfl ?_
  refine lV (yMove rfl) rfl rfl ?_
  refine lV (yFieldAddr rfl F23_0) rfl rfl ?_
  refine lV (yLoad1 rfl O3 (cOwn 0 rfl rfl)) rfl rfl ?_
  refine lV (yLeq rfl rfl) rfl rfl ?_
  refine lV (yMove rfl) rfl rfl ?_
  refine split (t := 11) rfl (fun h11 => ?_) (fun h11 => ?_)
  · refine lGY rfl rfl rfl (oV (yFieldAddr rfl F23_0) rfl ?_)
    refine lGY rfl rfl rfl (oV (yLoad1 rfl O3 (cOwn 0 rfl rfl)) rfl ?_)
    refine lGY rfl rfl rfl (oV (yFieldAddr rfl F23_1) rfl ?_)
    refine lGY rfl rfl rfl (oV (yLoad1 rfl O3 (cOwn 0 rfl rfl)) rfl ?_)
    refine lGY rfl rfl rfl (oV (yLeq rfl rfl) rfl ?_)
    refine lV (yPickT rfl rfl) rfl rfl ?_
    refine lV (yMove rfl) rfl rfl ?_
    refine split (t := 18) rfl (fun h18 => ?_) (fun h18 => ?_)
    · refine lGY rfl rfl rfl (oV (yFieldAddr rfl F23_1) rfl ?_)
      refine lGY rfl rfl rfl (oV (yLoad1 rfl O3 (cOwn 0 rfl rfl)) rfl ?_)
      refine lGY rfl rfl rfl (oV (yMove rfl) rfl ?_)
      refine lGY rfl rfl rfl (oV (yLeq rfl rfl) rfl ?_)
      refine lV (yPickT rfl rfl) rfl rfl ?_
      refine lV (yAssign rfl) rfl rfl ?_
      refine lNil ?_
      refine kThen ?_
      refine kRet ?_
      refine fRet rfl (.t rfl .n) (endRet ?_)
      simp [packV, spanOk, *]
    · refine lGN rfl rfl rfl rfl rfl ?_
      refine lGN rfl rfl rfl rfl rfl ?_
      refine lGN rfl rfl rfl rfl rfl ?_
      refine lGN rfl rfl rfl rfl rfl ?_
      refine lV (yPickF rfl rfl) rfl rfl ?_
      refine lV (yAssign rfl) rfl rfl ?_
      refine lNil ?_
      refine kThen ?_
      refine kRet ?_
      refine fRet rfl (.t rfl .n) (endRet ?_)
      simp [packV, spanOk, *]
  · refine lGN rfl rfl rfl rfl rfl ?_
    refine lGN rfl rfl rfl rfl rfl ?_
    refine lGN rfl rfl rfl rfl rfl ?_
    refine lGN rfl rfl rfl rfl rfl ?_
    refine lGN rfl rfl rfl rfl rfl ?_
    refine lV (yPickF rfl rfl) rfl rfl ?_
    refine lV (yMove rfl) rfl rfl ?_
    refine lGN rfl rfl rfl rfl rfl ?_
    refine lGN rfl rfl rfl rfl rfl ?_
    refine lGN rfl rfl rfl rfl rfl ?_
    refine lGN rfl rfl rfl rfl rfl ?_
    refine lV (yPickF rfl rfl) rfl rfl ?_
    refine lV (yAssign rfl) rfl rfl ?_
    refine lNil ?_
    refine kThen ?_
    refine kRet ?_
    refine fRet rfl (.t rfl .n) (endRet ?_)
    simp [packV, spanOk, *]
set_option maxRecDepth 100000 in
set_option maxHeartbeats 2000000 in
set_option linter.unusedSimpArgs false in
theorem rplate_any (y : Option Addr × Nat) (p : Plt) (w : World) (hm : InP w y p) (hL : p.st.length ≤ 1000000) : Calls Try.prog 23 [.agg (pltC y p).toArray].toArray w (Ret w (.bool (decide (PltOk p)))) := by
  refine fEnter Try.func23 rfl Try.ntmps23 rfl ?_
  refine kSeq ?_
  refine kRegion rfl ?_
  refine lE rfl ?_
  refine eBoxA rfl fun n1 => ?_
  refine lV (yAssign rfl) rfl rfl ?_
  refine lNil ?_
  refine kThen ?_
  refine kSeq ?_
  refine kSeq ?_
  refine kRegion rfl ?_
  refine lV (yAssign rfl) rfl rfl ?_
  refine lNil ?_
  refine kThen ?_
  refine kBlock ?_
  refine kLoopX (ι := Nat) (fun i => i ≤ p.st.length ∧ ∀ j, j < i → starOk (p.st.getD j star0)) (fun i => [(3, i64 (i : Nat))]) [(0, _), (1, _)] (fun i => []) (fun i => []) [(n1, _)] (fun i => p.st.length - i) 0 (⟨Nat.zero_le _, fun j hj => absurd hj (by omega)⟩) rfl (.c rfl .n) (.c rfl (.c rfl .n)) (.c 0 rfl .n) ?_
  rintro i ⟨hi, hok⟩
  refine kSeq ?_
  refine kSeq ?_
  refine kRegion rfl ?_
  refine lV (yMove rfl) rfl rfl ?_
  refine lV (yFieldAddr rfl F26_1) rfl rfl ?_
  refine lV (yLoad1 rfl O24 (cOwn 0 rfl rfl)) rfl rfl ?_
  refine lV (yLen rfl S24) rfl rfl ?_
  refine lV (yLss rfl rfl) rfl rfl ?_
  refine lNil ?_
  refine kThen ?_
  refine split (t := 9) rfl (fun h9 => ?_) (fun h9 => ?_)
  · refine kIfT rfl ?_
    refine kSkip ?_
    refine kThen ?_
    refine kSeq ?_
    refine kBlock ?_
    refine kSeq ?_
    refine kRegion rfl ?_
    refine lV (yFieldAddr rfl F26_1) rfl rfl ?_
    refine lV (yLoad1 rfl O24 (cOwn 0 rfl rfl)) rfl rfl ?_
    refine lV (yMove rfl) rfl rfl ?_
    refine lV (yIndexS  rfl rfl S24 (hm.r) ((by omega))) rfl rfl ?_
    refine lV (yLoadA (vs := [_, _, _, _, _, _, _, _, _]) rfl A58 (cSl0 (hm.r) ((by omega)) rfl)) rfl rfl ?_
    refine lE rfl ?_
    refine eAlloc Z58 fun n4 => ?_
    refine lE rfl ?_
    refine eStoreL 0 rfl rfl rfl rfl K58 rfl (rfl) ?_
    refine lNil ?_
    refine kThen ?_
    refine kSeq ?_
    have hgood : (!decide (starOk (p.st.getD i star0))) = false → starOk (p.st.getD i star0) := fun h => notF h
    have hbad : (!decide (starOk (p.st.getD i star0))) = true → ¬ starOk (p.st.getD i star0) := fun h => notT h
    refine kRegion rfl ?_
    refine lV (yFieldAddr rfl F58_0) rfl rfl ?_
    refine lV (yLoadA (vs := [_, _]) rfl A23 (cOwn 0 rfl rfl)) rfl rfl ?_
    refine lV (yCall rfl (.c rfl (.c rfl (.c rfl .n))) C72 (fun w hw => rspan_any _ _ _ w)) rfl rfl ?_
    refine lV (yNot rfl) rfl rfl ?_
    refine lV (yMove rfl) rfl rfl ?_
    refine splitB (t := 21) rfl (fun h21 => ?_) (fun h21 => ?_)
    · refine lGN rfl rfl rfl rfl rfl ?_
      refine lGN rfl rfl rfl rfl rfl ?_
      refine lGN rfl rfl rfl rfl rfl ?_
      refine lGN rfl rfl rfl rfl rfl ?_
      refine lV (yPickT rfl rfl) rfl rfl ?_
      refine lV (yMove rfl) rfl rfl ?_
      refine lGN rfl rfl rfl rfl rfl ?_
      refine lGN rfl rfl rfl rfl rfl ?_
      refine lGN rfl rfl rfl rfl rfl ?_
      refine lGU rfl rfl rfl rfl ?_
      refine lGU rfl rfl rfl rfl ?_
      refine lGU rfl rfl rfl rfl ?_
      refine lGU rfl rfl rfl rfl ?_
      refine lGU rfl rfl rfl rfl ?_
      refine lGU rfl rfl rfl rfl ?_
      refine lGU rfl rfl rfl rfl ?_
      refine lGU rfl rfl rfl rfl ?_
      refine lGU rfl rfl rfl rfl ?_
      refine lGU rfl rfl rfl rfl ?_
      refine lGN rfl rfl rfl rfl rfl ?_
      refine lV (yPickT rfl rfl) rfl rfl ?_
      refine lNil ?_
      refine kThen ?_
      refine kIfT rfl ?_
      refine kSeq ?_
      refine kRegion rfl ?_
      refine lV (yAssign rfl) rfl rfl ?_
      refine lNil ?_
      refine kThen ?_
      refine kRet ?_
      refine kInR ?_
      refine kThenR ?_
      refine kThenR ?_
      refine kInR ?_
      refine kThenR ?_
      refine fRet rfl (.t rfl .n) (endRet ?_)
      simp only [packV]; rw [decide_eq_false fun h : PltOk p => hbad (by simp only [bad_val, *, Bool.true_or, Bool.or_true, Bool.false_or, Bool.or_false, Bool.true_and, Bool.false_and, Bool.and_true, Bool.and_false]) (h.s _ (getD_mem (i := i) (by omega) star0))]
    · refine lGY rfl rfl rfl (oV (yFieldAddr rfl F58_1) rfl ?_)
      refine lGY rfl rfl rfl (oV (yLoadA (vs := [_, _]) rfl A23 (cOwn 0 rfl rfl)) rfl ?_)
      refine lGY rfl rfl rfl (oV (yCall rfl (.c rfl (.c rfl (.c rfl .n))) C72 (fun w hw => rspan_any _ _ _ w)) rfl ?_)
      refine lGY rfl rfl rfl (oV (yNot rfl) rfl ?_)
      refine lV (yPickF rfl rfl) rfl rfl ?_
      refine lV (yMove rfl) rfl rfl ?_
      refine splitB (t := 27) rfl (fun h27 => ?_) (fun h27 => ?_)
      · refine lGN rfl rfl rfl rfl rfl ?_
        refine lGN rfl rfl rfl rfl rfl ?_
        refine lGN rfl rfl rfl rfl rfl ?_
        refine lGU rfl rfl rfl rfl ?_
        refine lGU rfl rfl rfl rfl ?_
        refine lGU rfl rfl rfl rfl ?_
        refine lGU rfl rfl rfl rfl ?_
        refine lGU rfl rfl rfl rfl ?_
        refine lGU rfl rfl rfl rfl ?_
        refine lGU rfl rfl rfl rfl ?_
        refine lGU rfl rfl rfl rfl ?_
        refine lGU rfl rfl rfl rfl ?_
        refine lGU rfl rfl rfl rfl ?_
        refine lGN rfl rfl rfl rfl rfl ?_
        refine lV (yPickT rfl rfl) rfl rfl ?_
        refine lNil ?_
        refine kThen ?_
        refine kIfT rfl ?_
        refine kSeq ?_
        refine kRegion rfl ?_
        refine lV (yAssign rfl) rfl rfl ?_
        refine lNil ?_
        refine kThen ?_
        refine kRet ?_
        refine kInR ?_
        refine kThenR ?_
        refine kThenR ?_
        refine kInR ?_
        refine kThenR ?_
        refine fRet rfl (.t rfl .n) (endRet ?_)
        simp only [packV]; rw [decide_eq_false fun h : PltOk p => hbad (by simp only [bad_val, *, Bool.true_or, Bool.or_true, Bool.false_or, Bool.or_false, Bool.true_and, Bool.false_and, Bool.and_true, Bool.and_false]) (h.s _ (getD_mem (i := i) (by omega) star0))]
      · refine lGY rfl rfl rfl (oV (yFieldAddr rfl F58_2) rfl ?_)
        refine lGY rfl rfl rfl (oV (yLoad1 rfl O4 (cOwn 0 rfl rfl)) rfl ?_)
        refine lGY rfl rfl rfl (oV (yMove rfl) rfl ?_)
        refine splitB (t := 30) rfl (fun h30 => ?_) (fun h30 => ?_)
        · refine lGY rfl rfl rfl (oV (yFieldAddr rfl F58_3) rfl ?_)
          refine lGY rfl rfl rfl (oV (yLoadA (vs := [_, _]) rfl A23 (cOwn 0 rfl rfl)) rfl ?_)
          refine lGY rfl rfl rfl (oV (yCall rfl (.c rfl (.c rfl (.c rfl .n))) C72 (fun w hw => rspan_any _ _ _ w)) rfl ?_)
          refine lGY rfl rfl rfl (oV (yNot rfl) rfl ?_)
          refine lGY rfl rfl rfl (oV (yMove rfl) rfl ?_)
          refine splitB (t := 35) rfl (fun h35 => ?_) (fun h35 => ?_)
          · refine lGN rfl rfl rfl rfl rfl ?_
            refine lGN rfl rfl rfl rfl rfl ?_
            refine lGN rfl rfl rfl rfl rfl ?_
            refine lGN rfl rfl rfl rfl rfl ?_
            refine lGY rfl rfl rfl (oV (yPickT rfl rfl) rfl ?_)
            refine lGY rfl rfl rfl (oV (yPickT rfl rfl) rfl ?_)
            refine lV (yPickF rfl rfl) rfl rfl ?_
            refine lNil ?_
            refine kThen ?_
            refine kIfT rfl ?_
            refine kSeq ?_
            refine kRegion rfl ?_
            refine lV (yAssign rfl) rfl rfl ?_
            refine lNil ?_
            refine kThen ?_
            refine kRet ?_
            refine kInR ?_
            refine kThenR ?_
            refine kThenR ?_
            refine kInR ?_
            refine kThenR ?_
            refine fRet rfl (.t rfl .n) (endRet ?_)
            simp only [packV]; rw [decide_eq_false fun h : PltOk p => hbad (by simp only [bad_val, *, Bool.true_or, Bool.or_true, Bool.false_or, Bool.or_false, Bool.true_and, Bool.false_and, Bool.and_true, Bool.and_false]) (h.s _ (getD_mem (i := i) (by omega) star0))]
          · refine lGY rfl rfl rfl (oV (yFieldAddr rfl F58_4) rfl ?_)
            refine lGY rfl rfl rfl (oV (yLoadA (vs := [_, _]) rfl A23 (cOwn 0 rfl rfl)) rfl ?_)
            refine lGY rfl rfl rfl (oV (yCall rfl (.c rfl (.c rfl (.c rfl .n))) C72 (fun w hw => rspan_any _ _ _ w)) rfl ?_)
            refine lGY rfl rfl rfl (oV (yNot rfl) rfl ?_)
            refine lGY rfl rfl rfl (oV (yPickF rfl rfl) rfl ?_)
            refine lGY rfl rfl rfl (oV (yPickT rfl rfl) rfl ?_)
            refine lV (yPickF rfl rfl) rfl rfl ?_
            refine lNil ?_
            refine kThen ?_
            refine splitB (t := 42) rfl (fun h42 => ?_) (fun h42 => ?_)
            · refine kIfT rfl ?_
              refine kSeq ?_
              refine kRegion rfl ?_
              refine lV (yAssign rfl) rfl rfl ?_
              refine lNil ?_
              refine kThen ?_
              refine kRet ?_
              refine kInR ?_
              refine kThenR ?_
              refine kThenR ?_
              refine kInR ?_
              refine kThenR ?_
              refine fRet rfl (.t rfl .n) (endRet ?_)
              simp only [packV]; rw [decide_eq_false fun h : PltOk p => hbad (by simp only [bad_val, *, Bool.true_or, Bool.or_true, Bool.false_or, Bool.or_false, Bool.true_and, Bool.false_and, Bool.and_true, Bool.and_false]) (h.s _ (getD_mem (i := i) (by omega) star0))]
            · refine kIfF rfl ?_
              refine kSkip ?_
              refine kInN ?_
              refine kThen ?_
              refine kRegion rfl ?_
              refine lV (yMove rfl) rfl rfl ?_
              refine lV (yAdd rfl rfl (by omega)) rfl rfl ?_
              refine lV (yAssign rfl) rfl rfl ?_
              refine lNil ?_
              exact kRoundX (i + 1) (⟨by omega, fun j hj => by rcases Nat.lt_or_ge j i with h | h; (· exact hok j h); (obtain rfl : j = i := (by omega)); exact hgood (by simp only [bad_val, *, Bool.true_or, Bool.or_true, Bool.false_or, Bool.or_false, Bool.true_and, Bool.false_and, Bool.and_true, Bool.and_false])⟩) (by omega) rfl (.c rfl .n) (.c rfl (.c rfl .n)) (.c 1 rfl .n)
        · refine lGN rfl rfl rfl rfl rfl ?_
          refine lGN rfl rfl rfl rfl rfl ?_
          refine lGN rfl rfl rfl rfl rfl ?_
          refine lGN rfl rfl rfl rfl rfl ?_
          refine lGN rfl rfl rfl rfl rfl ?_
          refine lGU rfl rfl rfl rfl ?_
          refine lGU rfl rfl rfl rfl ?_
          refine lGU rfl rfl rfl rfl ?_
          refine lGU rfl rfl rfl rfl ?_
          refine lGN rfl rfl rfl rfl rfl ?_
          refine lGY rfl rfl rfl (oV (yPickF rfl rfl) rfl ?_)
          refine lV (yPickF rfl rfl) rfl rfl ?_
          refine lNil ?_
          refine kThen ?_
          refine kIfF rfl ?_
          refine kSkip ?_
          refine kInN ?_
          refine kThen ?_
          refine kRegion rfl ?_
          refine lV (yMove rfl) rfl rfl ?_
          refine lV (yAdd rfl rfl (by omega)) rfl rfl ?_
          refine lV (yAssign rfl) rfl rfl ?_
          refine lNil ?_
          exact kRoundX (i + 1) (⟨by omega, fun j hj => by rcases Nat.lt_or_ge j i with h | h; (· exact hok j h); (obtain rfl : j = i := (by omega)); exact hgood (by simp only [bad_val, *, Bool.true_or, Bool.or_true, Bool.false_or, Bool.or_false, Bool.true_and, Bool.false_and, Bool.and_true, Bool.and_false])⟩) (by omega) rfl (.c rfl .n) (.c rfl (.c rfl .n)) (.c 1 rfl .n)
  · refine kIfF rfl ?_
    refine kExit ?_
    refine kThenX ?_
    refine kThenX ?_
    refine kInX ?_
    refine kThen ?_
    refine kSeq ?_
    refine kRegion rfl ?_
    refine lV (yFieldAddr rfl F26_0) rfl rfl ?_
    refine lV (yLoadA (vs := [_, _]) rfl A23 (cOwn 0 rfl rfl)) rfl rfl ?_
    refine lV (yCall rfl (.c rfl (.c rfl (.c rfl .n))) C72 (fun w hw => rspan_any _ _ _ w)) rfl rfl ?_
    refine lV (yMove rfl) rfl rfl ?_
    refine splitB (t := 46) rfl (fun h46 => ?_) (fun h46 => ?_)
    · refine lGY rfl rfl rfl (oV (yFieldAddr rfl F26_1) rfl ?_)
      refine lGY rfl rfl rfl (oV (yLoad1 rfl O24 (cOwn 0 rfl rfl)) rfl ?_)
      refine lGY rfl rfl rfl (oV (yLen rfl S24) rfl ?_)
      refine lGY rfl rfl rfl (oV (yLeq rfl rfl) rfl ?_)
      refine lV (yPickT rfl rfl) rfl rfl ?_
      refine lV (yAssign rfl) rfl rfl ?_
      refine lNil ?_
      refine kThen ?_
      refine kRet ?_
      refine fRet rfl (.t rfl .n) (endRet ?_)
      have hall : ∀ x ∈ p.st, starOk x := fun x hx => by
        obtain ⟨j, hj, rfl⟩ := List.mem_iff_getElem.1 hx
        have := hok j (by omega)
        rwa [← List.getElem_eq_getD (h := hj)] at this
      simp only [packV]
      congr 1
      exact decide_eq_decide.2 ⟨fun h => ⟨of_decide_eq_true h46, by omega, hall⟩, fun h => by have := h.n; omega⟩
    · refine lGN rfl rfl rfl rfl rfl ?_
      refine lGN rfl rfl rfl rfl rfl ?_
      refine lGN rfl rfl rfl rfl rfl ?_
      refine lGN rfl rfl rfl rfl rfl ?_
      refine lV (yPickF rfl rfl) rfl rfl ?_
      refine lV (yAssign rfl) rfl rfl ?_
      refine lNil ?_
      refine kThen ?_
      refine kRet ?_
      refine fRet rfl (.t rfl .n) (endRet ?_)
      simp only [packV]; rw [decide_eq_false fun h : PltOk p => of_decide_eq_false h46 h.c]
set_option maxRecDepth 100000 in
theorem rknown_any (y : Option Addr × Nat) (p : Plt) (w : World) (hm : InP w y p) (hL : p.st.length ≤ 30) : Calls Try.prog 38 [.agg (pltC y p).toArray].toArray w (Ret w (i64 ((knownP p : Nat) : Int))) := by
  refine fEnter Try.func38 rfl Try.ntmps38 rfl ?_
  refine kSeq ?_
  refine kRegion rfl ?_
  refine lE rfl ?_
  refine eBoxA rfl fun n1 => ?_
  refine lV (yAssign rfl) rfl rfl ?_
  refine lNil ?_
  refine kThen ?_
  refine kSeq ?_
  refine kRegion rfl ?_
  refine lV (yAssign rfl) rfl rfl ?_
  refine lNil ?_
  refine kThen ?_
  refine kSeq ?_
  refine kSeq ?_
  refine kRegion rfl ?_
  refine lV (yAssign rfl) rfl rfl ?_
  refine lNil ?_
  refine kThen ?_
  refine kBlock ?_
  refine kLoopX (ι := Nat × Nat) (fun x => x.1 ≤ p.st.length ∧ x.2 = knownT p x.1) (fun x => [(4, i64 (x.1 : Nat)), (3, i64 (x.2 : Nat))]) [(0, _), (1, _), (2, _)] (fun x => []) (fun x => []) [(n1, _)] (fun x => p.st.length - x.1) (0, 0) (⟨Nat.zero_le _, rfl⟩) rfl (.c rfl (.c rfl .n)) (.c rfl (.c rfl (.c rfl .n))) (.c 0 rfl .n) ?_
  rintro ⟨i, s⟩ ⟨hi, hs⟩
  dsimp only at hi hs ⊢
  have hklt := knownT_lt p i
  rw [← hs] at hklt
  have hp2 : 2 ^ i ≤ 2 ^ 30 := Nat.pow_le_pow_right (by omega) (by omega)
  refine kSeq ?_
  refine kSeq ?_
  refine kRegion rfl ?_
  refine lV (yMove rfl) rfl rfl ?_
  refine lV (yFieldAddr rfl F26_1) rfl rfl ?_
  refine lV (yLoad1 rfl O24 (cOwn 0 rfl rfl)) rfl rfl ?_
  refine lV (yLen rfl S24) rfl rfl ?_
  refine lV (yLss rfl rfl) rfl rfl ?_
  refine lNil ?_
  refine kThen ?_
  refine split (t := 9) rfl (fun h9 => ?_) (fun h9 => ?_)
  · refine kIfT rfl ?_
    refine kSkip ?_
    refine kThen ?_
    refine kSeq ?_
    refine kBlock ?_
    refine kSeq ?_
    refine kRegion rfl ?_
    refine lV (yFieldAddr rfl F26_1) rfl rfl ?_
    refine lV (yLoad1 rfl O24 (cOwn 0 rfl rfl)) rfl rfl ?_
    refine lV (yMove rfl) rfl rfl ?_
    refine lV (yIndexS  rfl rfl S24 (hm.r) ((by omega))) rfl rfl ?_
    refine lV (yFieldAddr rfl F58_2) rfl rfl ?_
    refine lV (yLoad1 rfl O4 (cSl (hm.r) ((by omega)) rfl)) rfl rfl ?_
    refine splitB (t := 17) rfl (fun h17 => ?_) (fun h17 => ?_)
    · refine lNil ?_
      refine kThen ?_
      refine kIfT rfl ?_
      refine kRegion rfl ?_
      refine lV (yMove rfl) rfl rfl ?_
      refine lV (yMove rfl) rfl rfl ?_
      refine lV (yCall rfl (.c rfl .n) C84 (fun w hw => power_any i w (by omega))) rfl rfl ?_
      refine lV (yAdd rfl rfl (by omega)) rfl rfl ?_
      refine same (t := 21) (u := i64 ((s + 2 ^ i : Nat) : Int)) rfl (by congr 1) ?_
      refine lV (yAssign rfl) rfl rfl ?_
      refine lNil ?_
      refine kInN ?_
      refine kThen ?_
      refine kRegion rfl ?_
      refine lV (yMove rfl) rfl rfl ?_
      refine lV (yAdd rfl rfl (by omega)) rfl rfl ?_
      refine lV (yAssign rfl) rfl rfl ?_
      refine lNil ?_
      exact kRoundX (i + 1, s + 2 ^ i) (⟨by dsimp only; omega, by dsimp only; rw [knownT_succ, if_pos h17, ← hs, Nat.one_mul]; have := Nat.two_pow_add_eq_or_of_lt hklt 1; rw [Nat.mul_one, Nat.or_comm] at this; omega⟩) (by dsimp only; omega) rfl (.c rfl (.c rfl .n)) (.c rfl (.c rfl (.c rfl .n))) (.c 0 rfl .n)
    · refine lNil ?_
      refine kThen ?_
      refine kIfF rfl ?_
      refine kSkip ?_
      refine kInN ?_
      refine kThen ?_
      refine kRegion rfl ?_
      refine lV (yMove rfl) rfl rfl ?_
      refine lV (yAdd rfl rfl (by omega)) rfl rfl ?_
      refine lV (yAssign rfl) rfl rfl ?_
      refine lNil ?_
      exact kRoundX (i + 1, s) (⟨by dsimp only; omega, by dsimp only; rw [knownT_succ, if_neg (by rw [h17]; decide), hs]⟩) (by dsimp only; omega) rfl (.c rfl (.c rfl .n)) (.c rfl (.c rfl (.c rfl .n))) (.c 0 rfl .n)
  · refine kIfF rfl ?_
    refine kExit ?_
    refine kThenX ?_
    refine kThenX ?_
    refine kInX ?_
    refine kThen ?_
    refine kSeq ?_
    refine kRegion rfl ?_
    refine lV (yMove rfl) rfl rfl ?_
    refine lV (yAssign rfl) rfl rfl ?_
    refine lNil ?_
    refine kThen ?_
    refine kRet ?_
    refine fRet rfl (.t rfl .n) (endRet ?_)
    obtain rfl : i = p.st.length := by omega
    rw [show s = knownP p from hs]
    rfl
set_option maxRecDepth 100000 in
theorem inside_any (lo hi n : Int) (w : World) : Calls Try.prog 37 [i64 n, .agg [i64 lo, i64 hi].toArray].toArray w (Ret w (.bool (decide (lo ≤ n ∧ n ≤ hi)))) := by
  refine fEnter Try.func37 rfl Try.ntmps37 rfl ?_
  refine kSeq ?_
  refine kRegion rfl ?_
  refine lE rfl ?_
  refine eBoxA rfl fun n3 => ?_
  refine lV (yAssign rfl) rfl rfl ?_
  refine lNil ?_
  refine kThen ?_
  refine kSeq ?_
  refine kRegion rfl ?_
  refine lV (yFieldAddr rfl F23_0) rfl rfl ?_
  refine lV (yLoad1 rfl O3 (cOwn 0 rfl rfl)) rfl rfl ?_
  refine lV (yMove rfl) rfl rfl ?_
  refine lV (yLeq rfl rfl) rfl rfl ?_
  refine lV (yMove rfl) rfl rfl ?_
  refine split (t := 9) rfl (fun h9 => ?_) (fun h9 => ?_)
  · refine lGY rfl rfl rfl (oV (yMove rfl) rfl ?_)
    refine lGY rfl rfl rfl (oV (yFieldAddr rfl F23_1) rfl ?_)
    refine lGY rfl rfl rfl (oV (yLoad1 rfl O3 (cOwn 0 rfl rfl)) rfl ?_)
    refine lGY rfl rfl rfl (oV (yLeq rfl rfl) rfl ?_)
    refine lV (yPickT rfl rfl) rfl rfl ?_
    refine lV (yAssign rfl) rfl rfl ?_
    refine lNil ?_
    refine kThen ?_
    refine kRet ?_
    refine fRet rfl (.t rfl .n) (endRet ?_)
    simp [packV, *]
  · refine lGN rfl rfl rfl rfl rfl ?_
    refine lGN rfl rfl rfl rfl rfl ?_
    refine lGN rfl rfl rfl rfl rfl ?_
    refine lGN rfl rfl rfl rfl rfl ?_
    refine lV (yPickF rfl rfl) rfl rfl ?_
    refine lV (yAssign rfl) rfl rfl ?_
    refine lNil ?_
    refine kThen ?_
    refine kRet ?_
    refine fRet rfl (.t rfl .n) (endRet ?_)
    simp [packV, *]
end Go.Proofs.Ytlcdohhhhlhpmaa
namespace Go.Proofs.Ytlcdohhhhlhpmaa
open ZW

def setK (s : StarV) (b : Bool) : StarV := { s with k := b }
def partT (st : List StarV) (set n : Nat) : List StarV := (List.range n).foldl (fun l i => l.set i (setK (l.getD i star0) (set.testBit i))) st
theorem partT_succ (st : List StarV) (set n : Nat) : partT st set (n + 1) = (partT st set n).set n (setK ((partT st set n).getD n star0) (set.testBit n)) := range_foldl_succ _ _ _
theorem partT_len (st : List StarV) (set : Nat) : ∀ n, (partT st set n).length = st.length
  | 0 => rfl
  | n + 1 => by rw [partT_succ, List.length_set]; exact partT_len st set n
def partP (p : Plt) (set : Nat) : Plt := ⟨p.sc, partT p.st set p.st.length⟩
theorem map_set_row (l : List StarV) (i : Nat) (b : Bool) (hi : i < l.length) : (l.map rowS).set i (wr ((l.map rowS).getD i []) 4 [.bool b]) = (l.set i (setK (l.getD i star0) b)).map rowS := by
  rw [List.map_set]
  congr 1
  rw [map_getD hi star0]
  rfl
theorem rowsS_len (l : List StarV) : ∀ x ∈ l.map rowS, x.length = 9 := by
  intro x hx; obtain ⟨y, _, rfl⟩ := List.mem_map.1 hx; rfl
theorem rowsS_one (l : List StarV) : ∀ x ∈ l.map rowS, ∀ u ∈ x, u.oneCell' = true := by
  intro x hx u hu; obtain ⟨y, _, rfl⟩ := List.mem_map.1 hx
  simp only [rowS, List.mem_cons, List.not_mem_nil, or_false] at hu
  rcases hu with rfl | rfl | rfl | rfl | rfl | rfl | rfl | rfl | rfl <;> rfl

set_option maxRecDepth 100000 in
set_option maxHeartbeats 2000000 in
theorem part_any (y : Option Addr × Nat) (p : Plt) (set : Nat) (w : World) (hm : InP w y p) (hL : p.st.length ≤ 30) (hset : set < 2 ^ 62) : Calls Try.prog 42 [.agg (pltC y p).toArray, i64 (set : Nat)].toArray w
    (RetX w (fun g : Own => OS 9 g ((partP p set).st.map rowS)) (fun g => .agg (pltC (osA g, osC g) (partP p set)).toArray) (fun _ => []) (fun g => osL 58 g)) := by
  refine fEnter Try.func42 rfl Try.ntmps42 rfl ?_
  refine kSeq ?_
  refine kRegion rfl ?_
  refine lE rfl ?_
  refine eBoxA rfl fun n2 => ?_
  refine lE rfl ?_
  refine eAlloc Z26 fun n4 => ?_
  refine lNil ?_
  refine kThen ?_
  refine kSeq ?_
  refine kRegion rfl ?_
  refine lE rfl ?_
  refine eBuildSlice .n (fun w => BS24_0_ w) fun n6 => ?_
  refine lV (yFieldAddr rfl F26_1) rfl rfl ?_
  refine lV (yLoad1 rfl O24 (cOwn 2 rfl rfl)) rfl rfl ?_
  refine lE rfl ?_
  skip
  refine eAppend (gs := .b n6 0 []) (es := []) [(n4, _), (n2, _)] (p.st.map rowS) AP24 rfl rfl (.c 1 rfl (.c 1 rfl (.c 0 rfl .n))) (OS.lit (es := []) (by simp) rfl (by simp)) (by simp) (rowsS_len p.st) (flatten_range (f := rowS) p.st star0 ▸ SlN.sl hm.r) (rowsS_one p.st) (by simp; omega) (by simp; omega) fun g0 hg0 => ?_
  rw [List.nil_append] at hg0
  rw [show (([] : List (List Value)) ++ p.st.map rowS).length = p.st.length from by simp]
  refine lV (yFieldAddr rfl F26_1) rfl rfl ?_
  refine lE rfl ?_
  refine eStoreL 1 rfl rfl rfl rfl K24 rfl (rfl) ?_
  refine lNil ?_
  refine kThen ?_
  refine kSeq ?_
  refine kSeq ?_
  refine kRegion rfl ?_
  refine lV (yFieldAddr rfl F26_1) rfl rfl ?_
  refine lV (yLoad1 rfl O24 (cOwn 1 rfl rfl)) rfl rfl ?_
  refine lV (yLen rfl S24) rfl rfl ?_
  refine lV (yMove rfl) rfl rfl ?_
  refine lNil ?_
  refine kThen ?_
  refine kBlock ?_
  refine kLoopX (ι := Nat × Own) (fun x => x.1 ≤ p.st.length ∧ OS 9 x.2 ((partT p.st set x.1).map rowS) ∧ osA x.2 = osA g0 ∧ osC x.2 = osC g0) (fun x => [(14, i64 (x.1 : Nat))]) [(0, _), (1, _), (2, _), (4, _), (6, _), (7, _), (8, _), (9, _), (10, _), (11, _), (12, _), (13, _)] (fun x => []) (fun x => osL 58 x.2) [(n4, _), (n2, _)] (fun x => p.st.length - x.1) (0, g0) (⟨Nat.zero_le _, hg0, rfl, rfl⟩) rfl (.c rfl .n) (.c rfl (.c rfl (.c rfl (.c rfl (.c rfl (.c rfl (.c rfl (.c rfl (.c rfl (.c rfl (.c rfl (.c rfl .n)))))))))))) .r ?_
  rintro ⟨i, g⟩ ⟨hi, hg, hA, hC⟩
  dsimp only at hi hg hA hC ⊢
  refine kSeq ?_
  refine kRegion rfl ?_
  refine lV (yLss rfl rfl) rfl rfl ?_
  refine lNil ?_
  refine kThen ?_
  refine kSeq ?_
  refine split (t := 15) rfl (fun h15 => ?_) (fun h15 => ?_)
  · refine kIfT rfl ?_
    refine kSkip ?_
    refine kThen ?_
    refine kSeq ?_
    refine kBlock ?_
    refine kSeq ?_
    refine kRegion rfl ?_
    refine lV (yMove rfl) rfl rfl ?_
    refine lV (yAssign rfl) rfl rfl ?_
    refine lNil ?_
    refine kThen ?_
    refine kDrawE [(1, none), (8, none)] [] [0, 1, 2, 3, 4, 5, 6, 7, 8, 9] 1 hMix (by kernel_rfl) ?_
    refine .run rfl (yFieldAddr rfl F26_1) rfl rfl ?_
    refine .run rfl (yLoad1 rfl O24 (cOwn 1 rfl rfl)) rfl rfl ?_
    refine .run rfl (yMove rfl) rfl rfl ?_
    refine .run rfl (yMove rfl) rfl rfl ?_
    refine .run rfl (yMove rfl) rfl rfl ?_
    refine .run rfl (yShr rfl rfl rfl (by have := Nat.div_le_self set (2 ^ i); omega)) rfl rfl ?_
    refine .run rfl (yAnd (b := 1) rfl rfl rfl (by have := Nat.div_le_self set (2 ^ i); omega) (by have := Nat.div_le_self set (2 ^ i); omega)) rfl rfl ?_
    refine .run rfl (yvIs (c := set.testBit i) (yEql rfl rfl) (by rw [Bool.eq_iff_iff, decide_eq_true_eq]; exact bit1_iff set i)) rfl rfl ?_
    refine .run rfl (yIndexS  rfl rfl S24 ((fun w hw => (show SlE w (osA g0) p.st.length 9 (starC (partT p.st set i)) from by rw [← hA]; exact (OS.rowsE (f := rowS) star0 hg hw (.d 0 (.d 0 .r))).congr (partT_len _ _ _).symm fun i _ => rfl))) ((by omega))) rfl rfl ?_
    refine .run rfl (yFieldAddr rfl F58_2) rfl rfl ?_
    refine .done ?_
    refine effStep 10 [] (by kernel_rfl) closedSt (hLeft [1, 8] (by kernel_rfl) (.c (fun _ _ hs => hs.ef) (.c (fun _ _ hs => hs.ef) .n))) ?_
    refine .c ?_ .n
    refine effOne rfl (gNone rfl (eStoreRow (X := [(n4, _), (n2, _)]) (gs := g) (sz := 9) (vs := [_]) (by rw [hA]; rfl) rfl rfl rfl K4 rfl hg (by rw [List.length_map, partT_len]; omega) (Nat.le_of_ble_eq_true rfl) trSelf)) ?_
    refine effDone closedSt (hLeft [] (by kernel_rfl) .n) (by kernel_rfl) ?_
    refine kInN ?_
    refine kThen ?_
    refine kRegion rfl ?_
    refine lV (yAdd rfl rfl (by omega)) rfl rfl ?_
    refine lV (yMove rfl) rfl rfl ?_
    refine lNil ?_
    exact kRoundX (i + 1, rowSet 9 g i 4 [.bool (set.testBit i)]) (⟨by dsimp only; omega, by dsimp only; rw [partT_succ, ← map_set_row _ _ _ (by rw [partT_len]; omega)]; exact hg.rowSet (by rw [List.length_map, partT_len]; omega) (Nat.le_of_ble_eq_true rfl), by rw [rowSet_A]; exact hA, by rw [rowSet_C]; exact hC⟩) (by dsimp only; omega) rfl (.c rfl .n) (.c rfl (.c rfl (.c rfl (.c rfl (.c rfl (.c rfl (.c rfl (.c rfl (.c rfl (.c rfl (.c rfl (.c rfl .n)))))))))))) (.c 0 rfl (.c 0 rfl .r))
  · refine kIfF rfl ?_
    refine kExit ?_
    refine kThenX ?_
    refine kThenX ?_
    refine kInX ?_
    refine kThen ?_
    refine kSeq ?_
    refine kRegion rfl ?_
    refine lV (yLoadA (vs := [_, _, _]) rfl A26 (cOwn 1 rfl rfl)) rfl rfl ?_
    refine lE rfl ?_
    refine eStoreL 0 rfl rfl rfl rfl K26 rfl (rfl) ?_
    refine lNil ?_
    refine kThen ?_
    refine kRet ?_
    refine fRet rfl (.cA (us := [_, _, _]) rfl A26 (cOwn 0 rfl rfl) .n) ?_
    obtain rfl : i = p.st.length := by omega
    exact endX g hg (by rw [hA, hC]; simp only [packV, partP]; rw [pltC, partT_len]) rfl (.d 0 (.d 0 .r))
end Go.Proofs.Ytlcdohhhhlhpmaa
namespace Go.Proofs.Ytlcdohhhhlhpmaa
open ZW

def asS (s : StarV) (e n : Int × Int) : StarV := { s with k := true, e := e, n := n }
def asP (p : Plt) (i : Nat) (e n : Int × Int) : Plt := ⟨p.sc, p.st.set i (asS (p.st.getD i star0) e n)⟩
set_option maxRecDepth 100000 in
set_option maxHeartbeats 2000000 in
theorem as_any (y : Option Addr × Nat) (p : Plt) (i : Nat) (e n : Int × Int) (w : World) (hm : InP w y p) (hL : p.st.length ≤ 30) (hi : i < p.st.length) : Calls Try.prog 40 [.agg (pltC y p).toArray, i64 (i : Nat), .agg (rowE e).toArray, .agg (rowE n).toArray].toArray w
    (RetX w (fun g : Own => OS 9 g ((asP p i e n).st.map rowS)) (fun g => .agg (pltC (osA g, osC g) (asP p i e n)).toArray) (fun _ => []) (fun g => osL 58 g)) := by
  refine fEnter Try.func40 rfl Try.ntmps40 rfl ?_
  refine kSeq ?_
  refine kRegion rfl ?_
  refine lE rfl ?_
  refine eBoxA rfl fun n4 => ?_
  refine lE rfl ?_
  refine eBoxA rfl fun n6 => ?_
  refine lE rfl ?_
  refine eBoxA rfl fun n7 => ?_
  refine lE rfl ?_
  refine eAlloc Z26 fun n8 => ?_
  refine lNil ?_
  refine kThen ?_
  refine kSeq ?_
  refine kRegion rfl ?_
  refine lE rfl ?_
  refine eBuildSlice .n (fun w => BS24_0_ w) fun n9 => ?_
  refine lV (yFieldAddr rfl F26_1) rfl rfl ?_
  refine lV (yLoad1 rfl O24 (cOwn 4 rfl rfl)) rfl rfl ?_
  refine lE rfl ?_
  skip
  refine eAppend (gs := .b n9 0 []) (es := []) [(n8, _), (n7, _), (n6, _), (n4, _)] (p.st.map rowS) AP24 rfl rfl (.c 1 rfl (.c 1 rfl (.c 1 rfl (.c 1 rfl (.c 0 rfl .n))))) (OS.lit (es := []) (by simp) rfl (by simp)) (by simp) (rowsS_len p.st) (flatten_range (f := rowS) p.st star0 ▸ SlN.sl hm.r) (rowsS_one p.st) (by simp; omega) (by simp; omega) fun g0 hg0 => ?_
  rw [List.nil_append] at hg0
  rw [show (([] : List (List Value)) ++ p.st.map rowS).length = p.st.length from by simp]
  obtain ⟨n0, c0, l0, rfl⟩ : ∃ n c l, g0 = .b n c l := by
    cases g0 with
    | b n c l => exact ⟨n, c, l, rfl⟩
    | e a => have := hg0.at_; simp only [List.map_eq_nil_iff] at this; rw [this] at hi; simp at hi
  have hl0 : i < (p.st.map rowS).length := by rw [List.length_map]; exact hi
  have h1 := hg0.rowSet (k := i) (o := 4) (vs := [.bool true]) hl0 (Nat.le_of_ble_eq_true rfl)
  have h2 := h1.rowSet (k := i) (o := 5) (vs := rowE e) (by rw [List.length_set]; exact hl0) (Nat.le_of_ble_eq_true rfl)
  have h3 := h2.rowSet (k := i) (o := 7) (vs := rowE n) (by rw [List.length_set, List.length_set]; exact hl0) (Nat.le_of_ble_eq_true rfl)
  refine lV (yFieldAddr rfl F26_1) rfl rfl ?_
  refine lE rfl ?_
  refine eStoreL 3 rfl rfl rfl rfl K24 rfl (rfl) ?_
  refine lNil ?_
  refine kThen ?_
  refine kSeq ?_
  refine kDrawE [(1, some [0, 1, 2, 3]), (4, some [0, 1, 2, 3]), (7, some [0, 1, 2, 3]), (9, some [0, 1, 2, 3]), (10, some [0, 1, 2, 3])] [] [0, 1, 2, 3, 4, 5, 6, 7, 8, 9, 10, 11, 12, 14, 15, 17, 18] 3 hMix (by kernel_rfl) ?_
  refine .run rfl (yFieldAddr rfl F26_1) rfl rfl ?_
  refine .run rfl (yLoad1 rfl O24 (cOwn 3 rfl rfl)) rfl rfl ?_
  refine .run rfl (yMove rfl) rfl rfl ?_
  refine .run rfl (yFieldAddr rfl F26_1) rfl rfl ?_
  refine .run rfl (yLoad1 rfl O24 (cOwn 3 rfl rfl)) rfl rfl ?_
  refine .run rfl (yMove rfl) rfl rfl ?_
  refine .run rfl (yFieldAddr rfl F26_1) rfl rfl ?_
  refine .run rfl (yLoad1 rfl O24 (cOwn 3 rfl rfl)) rfl rfl ?_
  refine .run rfl (yMove rfl) rfl rfl ?_
  refine .run rfl (yLoadA (vs := [_, _]) rfl A23 (cOwn 2 rfl rfl)) rfl rfl ?_
  refine .run rfl (yLoadA (vs := [_, _]) rfl A23 (cOwn 1 rfl rfl)) rfl rfl ?_
  refine .run rfl (yIndexSl rfl rfl S24 (by omega) (by omega)) rfl rfl ?_
  refine .run rfl (yFieldAddr rfl F58_2) rfl rfl ?_
  refine .run rfl (yIndexSl rfl rfl S24 (by omega) (by omega)) rfl rfl ?_
  refine .run rfl (yFieldAddr rfl F58_3) rfl rfl ?_
  refine .run rfl (yIndexSl rfl rfl S24 (by omega) (by omega)) rfl rfl ?_
  refine .run rfl (yFieldAddr rfl F58_4) rfl rfl ?_
  refine .done ?_
  refine effStep 13 [] (by kernel_rfl) closedSt (hLeft [1, 4, 7, 9, 10] (by kernel_rfl) (.c (fun _ _ hs => hs.ef.sub (.c 0 rfl (.c 0 rfl (.c 0 rfl (.c 0 rfl .n))))) (.c (fun _ _ hs => hs.ef.sub (.c 0 rfl (.c 0 rfl (.c 0 rfl (.c 0 rfl .n))))) (.c (fun _ _ hs => hs.ef.sub (.c 0 rfl (.c 0 rfl (.c 0 rfl (.c 0 rfl .n))))) (.c (fun _ _ hs => hs.ef.sub (.c 0 rfl (.c 0 rfl (.c 0 rfl (.c 0 rfl .n))))) (.c (fun _ _ hs => hs.ef.sub (.c 0 rfl (.c 0 rfl (.c 0 rfl (.c 0 rfl .n))))) .n)))))) ?_
  refine .c ?_ .n
  refine effOne rfl (gNone rfl (eStoreRow (X := [(n8, _), (n7, _), (n6, _), (n4, _)]) (sz := 9) (k := i) (o := 4) (vs := [.bool true]) rfl rfl rfl rfl K4 rfl hg0 hl0 (Nat.le_of_ble_eq_true rfl) trSelf)) ?_
  refine effStep 16 [] (by kernel_rfl) closedSt (hLeft [4, 7, 9, 10] (by kernel_rfl) (.c (fun _ _ hs => hs.ef.sub (.c 0 rfl (.c 0 rfl (.c 0 rfl (.c 0 rfl .n))))) (.c (fun _ _ hs => hs.ef.sub (.c 0 rfl (.c 0 rfl (.c 0 rfl (.c 0 rfl .n))))) (.c (fun _ _ hs => hs.ef.sub (.c 0 rfl (.c 0 rfl (.c 0 rfl (.c 0 rfl .n))))) (.c (fun _ _ hs => hs.ef.sub (.c 0 rfl (.c 0 rfl (.c 0 rfl (.c 0 rfl .n))))) .n))))) ?_
  refine .c ?_ .n
  refine effOne rfl (gNone rfl (eStoreRow (X := [(n8, _), (n7, _), (n6, _), (n4, _)]) (sz := 9) (k := i) (o := 5) (vs := rowE e) rfl rfl rfl rfl K23 rfl h1 (by rw [List.length_set]; exact hl0) (Nat.le_of_ble_eq_true rfl) trSelf)) ?_
  refine effStep 19 [] (by kernel_rfl) closedSt (hLeft [7, 10] (by kernel_rfl) (.c (fun _ _ hs => hs.ef.sub (.c 0 rfl (.c 0 rfl (.c 0 rfl (.c 0 rfl .n))))) (.c (fun _ _ hs => hs.ef.sub (.c 0 rfl (.c 0 rfl (.c 0 rfl (.c 0 rfl .n))))) .n))) ?_
  refine .c ?_ .n
  refine effOne rfl (gNone rfl (eStoreRow (X := [(n8, _), (n7, _), (n6, _), (n4, _)]) (sz := 9) (k := i) (o := 7) (vs := rowE n) rfl rfl rfl rfl K23 rfl h2 (by rw [List.length_set, List.length_set]; exact hl0) (Nat.le_of_ble_eq_true rfl) trSelf)) ?_
  refine effDone closedSt (hLeft [] (by kernel_rfl) .n) (by kernel_rfl) ?_
  refine kThen ?_
  refine kSeq ?_
  refine kRegion rfl ?_
  refine lV (yLoadA (vs := [_, _, _]) rfl A26 (cOwn 3 rfl rfl)) rfl rfl ?_
  refine lE rfl ?_
  refine eStoreL 0 rfl rfl rfl rfl K26 rfl (rfl) ?_
  refine lNil ?_
  refine kThen ?_
  refine kRet ?_
  refine fRet rfl (.cA (us := [_, _, _]) rfl A26 (cOwn 0 rfl rfl) .n) ?_
  refine endX (rowSet 9 (rowSet 9 (rowSet 9 (.b n0 c0 l0) i 4 [.bool true]) i 5 (rowE e)) i 7 (rowE n)) ?_ ?_ rfl (.d 0 (.d 0 (.d 0 (.d 0 .r))))
  · have hg : ∀ (l : List (List Value)) (x : List Value), i < l.length → (l.set i x).getD i [] = x := fun l x h => by rw [List.getD_eq_getElem?_getD, List.getElem?_set_self h]; rfl
    have hg' : ∀ x : List Value, ((p.st.map rowS).set i x).getD i [] = x := fun x => hg _ x hl0
    have hm0 : (p.st.map rowS).getD i [] = rowS (p.st.getD i star0) := map_getD hi star0
    simp only [List.set_set, hg', hm0] at h3
    show OS 9 _ ((p.st.set i (asS (p.st.getD i star0) e n)).map rowS)
    rw [List.map_set]
    exact h3
  · simp only [packV, asP]
    rw [pltC, List.length_set]
    rfl
end Go.Proofs.Ytlcdohhhhlhpmaa
