/-
  Walk: ScrewNames.
-/
import Derived.Test.YtoefcofplkbnkaaNa
namespace Go.Proofs.Ytoefcofplkbnkaa
open ZW

abbrev locO (e n : Nat) : Loc := ⟨some ⟨e, 0, none⟩, 4, some ⟨n, 0, none⟩, 3⟩
theorem sam1_in {w : World} {e n : Nat} (hb : w.heap[e]? = some (blk errs4 24)) (hs : w.heap[n]? = some (blk (sets1.map rowS).flatten 49)) : InM w (locO e n) sam1 :=
  ⟨sleRows (f := rowE) (fun _ => rfl) (0, 0) [(-2, 2), (0, 5), (1, 1), (-4, 0)] rfl hb, sleRows (f := rowS) (fun _ => rfl) (0, 0, false) sets1 rfl hs⟩

set_option maxRecDepth 100000 in
theorem names_any (w : World) : Calls Try.prog 10 [].toArray w (Ret w (.bool true)) := by
  refine fEnter Try.func10 rfl Try.ntmps10 rfl ?_
  refine kSeq ?_
  refine kRegion rfl ?_
  refine lV (yAssign rfl) rfl rfl ?_
  refine lNil ?_
  refine kThen ?_
  refine kSeq ?_
  refine kRegion rfl ?_
  refine lE rfl ?_
  refine eCallO rfl (.c rfl .n) C41 (fun w hw => sample0_any w) fun x hx0 => ?_
  obtain ⟨e0, g0⟩ := x
  dsimp only at hx0 ⊢
  refine lE rfl ?_
  refine eAlloc Z29 fun n1 => ?_
  refine lE rfl ?_
  refine eStoreL 0 rfl rfl rfl rfl K29 rfl (rfl) ?_
  refine lNil ?_
  refine kThen ?_
  refine kSeq ?_
  refine kDrawE [(1, none), (2, none), (3, none), (5, none), (6, none), (7, none), (9, none), (10, none), (11, none)] [] [0, 1, 2, 3, 4, 5, 6, 7, 8, 9, 10, 11, 13] 2 hMix (by kernel_rfl) ?_
  refine .run rfl (yFieldAddr rfl F29_3) rfl rfl ?_
  refine .run rfl (yLoad1 rfl O27 (cOwn 0 rfl rfl)) rfl rfl ?_
  refine .run rfl (yIndexS (k := 0) rfl rfl S27 (fun w hw => hx0.rowsE (f := rowS) (0, 0, false) hw (.d 0 (.d 0 .r))) (by decide)) rfl rfl ?_
  refine .run rfl (yLoadA (vs := [_, _, _]) rfl A49 (cSl0 (fun w hw => hx0.rowsE (f := rowS) (0, 0, false) hw (.d 0 (.d 0 .r))) (by decide) rfl)) rfl rfl ?_
  refine .run rfl (yFieldAddr rfl F29_3) rfl rfl ?_
  refine .run rfl (yLoad1 rfl O27 (cOwn 0 rfl rfl)) rfl rfl ?_
  refine .run rfl (yIndexS (k := 2) rfl rfl S27 (fun w hw => hx0.rowsE (f := rowS) (0, 0, false) hw (.d 0 (.d 0 .r))) (by decide)) rfl rfl ?_
  refine .run rfl (yLoadA (vs := [_, _, _]) rfl A49 (cSl0 (fun w hw => hx0.rowsE (f := rowS) (0, 0, false) hw (.d 0 (.d 0 .r))) (by decide) rfl)) rfl rfl ?_
  refine .run rfl (yFieldAddr rfl F29_3) rfl rfl ?_
  refine .run rfl (yLoad1 rfl O27 (cOwn 0 rfl rfl)) rfl rfl ?_
  refine .run rfl (yIndexS (k := 3) rfl rfl S27 (fun w hw => hx0.rowsE (f := rowS) (0, 0, false) hw (.d 0 (.d 0 .r))) (by decide)) rfl rfl ?_
  refine .run rfl (yLoadA (vs := [_, _, _]) rfl A49 (cSl0 (fun w hw => hx0.rowsE (f := rowS) (0, 0, false) hw (.d 0 (.d 0 .r))) (by decide) rfl)) rfl rfl ?_
  refine .run rfl (yFieldAddr rfl F29_3) rfl rfl ?_
  refine .done ?_
  refine effStep 12 [] (by kernel_rfl) closedSt (hLeft [1, 2, 3, 5, 6, 7, 9, 10, 11] (by kernel_rfl) (.c (fun _ _ hs => hs.ef) (.c (fun _ _ hs => hs.ef) (.c (fun _ _ hs => hs.ef) (.c (fun _ _ hs => hs.ef) (.c (fun _ _ hs => hs.ef) (.c (fun _ _ hs => hs.ef) (.c (fun _ _ hs => hs.ef) (.c (fun _ _ hs => hs.ef) (.c (fun _ _ hs => hs.ef) .n)))))))))) ?_
  refine .c ?_ .n
  refine effOne rfl (gNone rfl (fBuildSlice (.c rfl (.c rfl (.c rfl .n))) (fun w => BS27_3_0_1_2 w))) ?_
  refine effStep 14 [] (by kernel_rfl) (closedEx fun n33 => closedSt) (hLeft [] (by kernel_rfl) .n) ?_
  refine .c ?_ .n
  refine effOne rfl (opEx fun n33 => (gNone rfl (fStoreL 1 rfl rfl rfl rfl K27 rfl (rfl)))) ?_
  refine effDone (closedEx fun n33 => closedSt) (hLeft [] (by kernel_rfl) .n) (by kernel_rfl) ?_
  refine trEx fun n33 => ?_
  refine kThen ?_
  refine kSeq ?_
  refine forgetP [(e0, _), (n33, _), (n1, _)] (.c 2 rfl (.c 0 rfl (.c 0 rfl .n))) ?_
  refine kRegion rfl ?_
  refine lV (yFieldAddr rfl F29_0) rfl rfl ?_
  refine lV (yLoadA (vs := [_, _, _]) rfl A26 (cOwn 2 rfl rfl)) rfl rfl ?_
  refine lV (yCall rfl (.c rfl (.c rfl .n)) C16 (fun w hw => travelX_any (locO e0 n33) sam1 4000 w (sam1_in (hw.blkAt 0 rfl) (hw.blkAt 1 rfl)))) rfl rfl ?_
  refine same (t := 38) (u := outC ((0, 0), 2)) rfl (by rw [v_travel1]) ?_
  refine lV (yMove rfl) rfl rfl ?_
  refine lV (yExtract rfl rfl) rfl rfl ?_
  refine lV (yExtract rfl rfl) rfl rfl ?_
  refine lE rfl ?_
  refine eAlloc Z24 fun n2 => ?_
  refine lE rfl ?_
  refine eStoreL 0 rfl rfl rfl rfl K24 rfl (rfl) ?_
  refine lV (yAssign rfl) rfl rfl ?_
  refine lNil ?_
  refine kThen ?_
  refine kSeq ?_
  refine forgetP [(e0, _), (n33, _), (n1, _)] (.c 1 rfl (.c 1 rfl (.c 1 rfl .n))) ?_
  refine kRegion rfl ?_
  refine lE rfl ?_
  refine eCallO rfl (.c rfl .n) C41 (fun w hw => sample0_any w) fun x hx => ?_
  obtain ⟨e, g⟩ := x
  dsimp only at hx ⊢
  refine lV (yCall rfl (.c rfl (.c rfl .n)) C20 (fun w hw => place_any (locS (e, g)) sam 0 w (sam_in hx hw (hw.blkAt 3 rfl) (.d 0 (.d 0 (.d 0 (.d 0 .r))))))) rfl rfl ?_
  refine same (t := 43) (u := outC ((495, 502), 0)) rfl (by rw [v_place0]) ?_
  refine lV (yMove rfl) rfl rfl ?_
  refine lV (yExtract rfl rfl) rfl rfl ?_
  refine lV (yExtract rfl rfl) rfl rfl ?_
  refine lE rfl ?_
  refine eAlloc Z24 fun n4 => ?_
  refine lE rfl ?_
  refine eStoreL 0 rfl rfl rfl rfl K24 rfl (rfl) ?_
  refine lV (yAssign rfl) rfl rfl ?_
  refine lNil ?_
  refine kThen ?_
  refine kSeq ?_
  refine forgetP [(e0, _), (n33, _), (n1, _), (n4, _)] (.c 1 rfl (.c 1 rfl (.c 1 rfl (.c 0 rfl .n)))) ?_
  refine kRegion rfl ?_
  refine lE rfl ?_
  refine eCallO rfl (.c rfl .n) C41 (fun w hw => sample0_any w) fun x hx => ?_
  obtain ⟨e, g⟩ := x
  dsimp only at hx ⊢
  refine lV (yCall rfl (.c rfl (.c rfl (.c rfl .n))) C22 (fun w hw => apart_any (locS (e, g)) sam 1 0 w (sam_in hx hw (hw.blkAt 4 rfl) (.d 0 (.d 0 (.d 0 (.d 0 (.d 0 .r)))))))) rfl rfl ?_
  refine same (t := 48) (u := outC ((-713, -706), 0)) rfl (by rw [v_apart10]) ?_
  refine lV (yMove rfl) rfl rfl ?_
  refine lV (yExtract rfl rfl) rfl rfl ?_
  refine lV (yExtract rfl rfl) rfl rfl ?_
  refine lE rfl ?_
  refine eAlloc Z24 fun n6 => ?_
  refine lE rfl ?_
  refine eStoreL 0 rfl rfl rfl rfl K24 rfl (rfl) ?_
  refine lV (yAssign rfl) rfl rfl ?_
  refine lNil ?_
  refine kThen ?_
  refine kSeq ?_
  refine forgetP [(e0, _), (n33, _), (n1, _), (n4, _), (n6, _)] (.c 1 rfl (.c 1 rfl (.c 1 rfl (.c 1 rfl (.c 0 rfl .n))))) ?_
  refine kRegion rfl ?_
  refine lE rfl ?_
  refine eCallO rfl (.c rfl .n) C41 (fun w hw => sample0_any w) fun x hx => ?_
  obtain ⟨e, g⟩ := x
  dsimp only at hx ⊢
  refine lV (yCall rfl (.c rfl .n) C26 (fun w hw => clash_any (locS (e, g)) sam w (sam_in hx hw (hw.blkAt 5 rfl) (.d 0 (.d 0 (.d 0 (.d 0 (.d 0 (.d 0 .r))))))))) rfl rfl ?_
  refine same (t := 53) (u := outI (0, 0)) rfl (by rw [v_clash]) ?_
  refine lV (yMove rfl) rfl rfl ?_
  refine lV (yExtract rfl rfl) rfl rfl ?_
  refine lV (yExtract rfl rfl) rfl rfl ?_
  refine lV (yAssign rfl) rfl rfl ?_
  refine lV (yAssign rfl) rfl rfl ?_
  refine lNil ?_
  refine kThen ?_
  refine kSeq ?_
  refine forgetP [(e0, _), (n33, _), (n1, _), (n4, _), (n6, _)] (.c 0 rfl (.c 0 rfl (.c 0 rfl (.c 0 rfl (.c 0 rfl .n))))) ?_
  refine kRegion rfl ?_
  refine lE rfl ?_
  refine eCallO rfl (.c rfl .n) C41 (fun w hw => sample0_any w) fun x hx => ?_
  obtain ⟨e, g⟩ := x
  dsimp only at hx ⊢
  refine lV (yCall rfl (.c rfl .n) C27 (fun w hw => drop_any (locS (e, g)) sam w (sam_in hx hw (hw.blkAt 5 rfl) (.d 0 (.d 0 (.d 0 (.d 0 (.d 0 (.d 0 .r))))))))) rfl rfl ?_
  refine same (t := 58) (u := outI (0, 0)) rfl (by rw [v_drop]) ?_
  refine lV (yMove rfl) rfl rfl ?_
  refine lV (yExtract rfl rfl) rfl rfl ?_
  refine lV (yExtract rfl rfl) rfl rfl ?_
  refine lV (yAssign rfl) rfl rfl ?_
  refine lV (yAssign rfl) rfl rfl ?_
  refine lNil ?_
  refine kThen ?_
  refine kSeq ?_
  refine forgetP [(e0, _), (n33, _), (n1, _), (n4, _), (n6, _)] (.c 0 rfl (.c 0 rfl (.c 0 rfl (.c 0 rfl (.c 0 rfl .n))))) ?_
  refine kRegion rfl ?_
  refine lE rfl ?_
  refine eCallO rfl (.c rfl .n) C41 (fun w hw => sample0_any w) fun x hx => ?_
  obtain ⟨e, g⟩ := x
  dsimp only at hx ⊢
  refine lV (yCall rfl (.c rfl .n) C35 (fun w hw => idle_any (locS (e, g)) sam w (sam_in hx hw (hw.blkAt 5 rfl) (.d 0 (.d 0 (.d 0 (.d 0 (.d 0 (.d 0 .r))))))))) rfl rfl ?_
  refine same (t := 63) (u := outI (0, 0)) rfl (by rw [v_idle]) ?_
  refine lV (yMove rfl) rfl rfl ?_
  refine lV (yExtract rfl rfl) rfl rfl ?_
  refine lV (yExtract rfl rfl) rfl rfl ?_
  refine lV (yAssign rfl) rfl rfl ?_
  refine lV (yAssign rfl) rfl rfl ?_
  refine lNil ?_
  refine kThen ?_
  refine kSeq ?_
  refine forgetP [(e0, _), (n33, _), (n1, _), (n4, _), (n6, _)] (.c 0 rfl (.c 0 rfl (.c 0 rfl (.c 0 rfl (.c 0 rfl .n))))) ?_
  refine kRegion rfl ?_
  refine lE rfl ?_
  refine eCallO rfl (.c rfl .n) C41 (fun w hw => sample0_any w) fun x hx => ?_
  obtain ⟨e, g⟩ := x
  dsimp only at hx ⊢
  refine lV (yCall rfl (.c rfl .n) C39 (fun w hw => once_any (locS (e, g)) sam w (sam_in hx hw (hw.blkAt 5 rfl) (.d 0 (.d 0 (.d 0 (.d 0 (.d 0 (.d 0 .r))))))))) rfl rfl ?_
  refine same (t := 68) (u := outI (0, 0)) rfl (by rw [v_once]) ?_
  refine lV (yMove rfl) rfl rfl ?_
  refine lV (yExtract rfl rfl) rfl rfl ?_
  refine lV (yExtract rfl rfl) rfl rfl ?_
  refine lV (yAssign rfl) rfl rfl ?_
  refine lV (yAssign rfl) rfl rfl ?_
  refine lNil ?_
  refine kThen ?_
  refine kSeq ?_
  refine forgetP [(e0, _), (n33, _), (n1, _), (n4, _), (n6, _)] (.c 0 rfl (.c 0 rfl (.c 0 rfl (.c 0 rfl (.c 0 rfl .n))))) ?_
  refine kRegion rfl ?_
  refine lV (yLoadA (vs := [_, _, _, _, _, _, _]) rfl A29 (cOwn 2 rfl rfl)) rfl rfl ?_
  refine lV (yCall rfl (.c rfl .n) C39 (fun w hw => once_any (locO e0 n33) sam1 w (sam1_in (hw.blkAt 0 rfl) (hw.blkAt 1 rfl)))) rfl rfl ?_
  refine same (t := 73) (u := outI (1, 0)) rfl (by rw [v_once1]) ?_
  refine lV (yMove rfl) rfl rfl ?_
  refine lV (yExtract rfl rfl) rfl rfl ?_
  refine lV (yExtract rfl rfl) rfl rfl ?_
  refine lV (yAssign rfl) rfl rfl ?_
  refine lV (yAssign rfl) rfl rfl ?_
  refine lNil ?_
  refine kThen ?_
  refine kSeq ?_
  refine forgetP [(e0, _), (n33, _), (n1, _), (n4, _), (n6, _)] (.c 0 rfl (.c 0 rfl (.c 0 rfl (.c 0 rfl (.c 0 rfl .n))))) ?_
  refine kRegion rfl ?_
  refine lV (yCall rfl .n C42 (fun w hw => fifth_any w)) rfl rfl ?_
  refine lE rfl ?_
  refine eBuildSlice (.c rfl .n) (fun w => BS27_1_0 w) fun nf => ?_
  refine lE rfl ?_
  refine eCallO rfl (.c rfl .n) C41 (fun w hw => sample5_any nf w (hw.blkAt 0 rfl)) fun x hx => ?_
  obtain ⟨e, g⟩ := x
  dsimp only at hx ⊢
  refine lV (yCall rfl (.c rfl .n) C18 (fun w hw => sum_any (locS (e, g)) sam5 w (sam_in hx hw (hw.blkAt 6 rfl) (.d 0 (.d 0 (.d 0 (.d 0 (.d 0 (.d 0 (.d 0 .r)))))))))) rfl rfl ?_
  refine same (t := 80) (u := outC ((0, 0), 10)) rfl (by rw [v_sum5]) ?_
  refine lV (yMove rfl) rfl rfl ?_
  refine lV (yExtract rfl rfl) rfl rfl ?_
  refine lV (yExtract rfl rfl) rfl rfl ?_
  refine lE rfl ?_
  refine eAlloc Z24 fun n18 => ?_
  refine lE rfl ?_
  refine eStoreL 0 rfl rfl rfl rfl K24 rfl (rfl) ?_
  refine lV (yAssign rfl) rfl rfl ?_
  refine lNil ?_
  refine kThen ?_
  refine kSeq ?_
  refine kSeq ?_
  refine forgetP [(n4, _), (n6, _)] (.c 5 rfl (.c 5 rfl .n)) ?_
  refine kDrawE [(1, none), (9, none), (10, none), (18, none), (19, none)] [] [0, 1, 2, 3, 4, 5, 6, 7, 8, 9, 10, 11, 12, 13, 14, 15, 16, 17, 18, 19, 20, 21, 22, 23, 24, 25, 26, 27, 28, 29, 30, 31, 32, 33, 34, 35, 36, 37, 38, 39, 40, 41] 0 hMix (by kernel_rfl) ?_
  refine .run rfl (yMove rfl) rfl rfl ?_
  refine .runG rfl (yCall rfl .n C15 (fun w hw => alive_any w)) rfl rfl rfl rfl ?_
  refine .runG rfl (yNot rfl) rfl rfl rfl rfl ?_
  refine .run rfl (yPickF rfl rfl) rfl rfl ?_
  refine .run rfl (yMove rfl) rfl rfl ?_
  refine .runG rfl (yMove rfl) rfl rfl rfl rfl ?_
  refine .runG rfl (yvFalse (yNeq rfl rfl) (by decide)) rfl rfl rfl rfl ?_
  refine .run rfl (yPickF rfl rfl) rfl rfl ?_
  refine .run rfl (yMove rfl) rfl rfl ?_
  refine .runG rfl (yLoadA (vs := [_, _]) rfl A24 (cOwn 0 rfl rfl)) rfl rfl rfl rfl ?_
  refine .runG rfl (yCall rfl (.c rfl (.c rfl .n)) C30 (fun w hw => spanL_any _ _ w)) rfl rfl rfl rfl ?_
  refine .runG rfl (yvIs (c := false) (yNeAgg rfl rfl G24 (fun w => Q24 w)) (by decide)) rfl rfl rfl rfl ?_
  refine .run rfl (yPickF rfl rfl) rfl rfl ?_
  refine .run rfl (yMove rfl) rfl rfl ?_
  refine .runG rfl (yMove rfl) rfl rfl rfl rfl ?_
  refine .runG rfl (yvFalse (yNeq rfl rfl) (by decide)) rfl rfl rfl rfl ?_
  refine .run rfl (yPickF rfl rfl) rfl rfl ?_
  refine .run rfl (yMove rfl) rfl rfl ?_
  refine .runG rfl (yLoadA (vs := [_, _]) rfl A24 (cOwn 1 rfl rfl)) rfl rfl rfl rfl ?_
  refine .runG rfl (yCall rfl (.c rfl (.c rfl .n)) C30 (fun w hw => spanL_any _ _ w)) rfl rfl rfl rfl ?_
  refine .runG rfl (yvIs (c := false) (yNeAgg rfl rfl G24 (fun w => Q24 w)) (by decide)) rfl rfl rfl rfl ?_
  refine .run rfl (yPickF rfl rfl) rfl rfl ?_
  refine .run rfl (yMove rfl) rfl rfl ?_
  refine .runG rfl (yMove rfl) rfl rfl rfl rfl ?_
  refine .runG rfl (yvFalse (yNeq rfl rfl) (by decide)) rfl rfl rfl rfl ?_
  refine .run rfl (yPickF rfl rfl) rfl rfl ?_
  refine .run rfl (yMove rfl) rfl rfl ?_
  refine .runG rfl (yMove rfl) rfl rfl rfl rfl ?_
  refine .runG rfl (yvFalse (yNeq rfl rfl) (by decide)) rfl rfl rfl rfl ?_
  refine .run rfl (yPickF rfl rfl) rfl rfl ?_
  refine .run rfl (yMove rfl) rfl rfl ?_
  refine .runG rfl (yMove rfl) rfl rfl rfl rfl ?_
  refine .runG rfl (yvFalse (yNeq rfl rfl) (by decide)) rfl rfl rfl rfl ?_
  refine .run rfl (yPickF rfl rfl) rfl rfl ?_
  refine .run rfl (yMove rfl) rfl rfl ?_
  refine .runG rfl (yMove rfl) rfl rfl rfl rfl ?_
  refine .runG rfl (yvFalse (yNeq rfl rfl) (by decide)) rfl rfl rfl rfl ?_
  refine .run rfl (yPickF rfl rfl) rfl rfl ?_
  refine .run rfl (yMove rfl) rfl rfl ?_
  refine .runG rfl (yMove rfl) rfl rfl rfl rfl ?_
  refine .runG rfl (yvFalse (yNeq rfl rfl) (by decide)) rfl rfl rfl rfl ?_
  refine .run rfl (yPickF rfl rfl) rfl rfl ?_
  refine .done ?_
  refine effDone closedSt (hLeft [1, 9, 10, 18, 19] (by kernel_rfl) (.c (fun _ _ hs => hs.ef) (.c (fun _ _ hs => hs.ef) (.c (fun _ _ hs => hs.ef) (.c (fun _ _ hs => hs.ef) (.c (fun _ _ hs => hs.ef) .n)))))) (by kernel_rfl) ?_
  refine kThen ?_
  refine kIfF rfl ?_
  refine kSkip ?_
  refine kThen ?_
  refine kSeq ?_
  refine kRegion rfl ?_
  refine lV (yMove rfl) rfl rfl ?_
  refine lV (yEql rfl rfl) rfl rfl ?_
  refine known (t := 126) rfl (by decide) ?_
  refine lV (yMove rfl) rfl rfl ?_
  refine lGY rfl rfl rfl (oV (yMove rfl) rfl ?_)
  refine lGY rfl rfl rfl (oV (yEql rfl rfl) rfl ?_)
  refine known (t := 129) rfl (by decide) ?_
  refine lV (yPickT rfl rfl) rfl rfl ?_
  refine lV (yMove rfl) rfl rfl ?_
  refine lGY rfl rfl rfl (oV (yMove rfl) rfl ?_)
  refine lGY rfl rfl rfl (oV (yEql rfl rfl) rfl ?_)
  refine known (t := 133) rfl (by decide) ?_
  refine lV (yPickT rfl rfl) rfl rfl ?_
  refine lV (yMove rfl) rfl rfl ?_
  refine lGY rfl rfl rfl (oV (yMove rfl) rfl ?_)
  refine lGY rfl rfl rfl (oV (yEql rfl rfl) rfl ?_)
  refine known (t := 137) rfl (by decide) ?_
  refine lV (yPickT rfl rfl) rfl rfl ?_
  refine lV (yMove rfl) rfl rfl ?_
  refine lGY rfl rfl rfl (oV (yMove rfl) rfl ?_)
  refine lGY rfl rfl rfl (oV (yEql rfl rfl) rfl ?_)
  refine known (t := 141) rfl (by decide) ?_
  refine lV (yPickT rfl rfl) rfl rfl ?_
  refine lV (yMove rfl) rfl rfl ?_
  refine lGY rfl rfl rfl (oV (yMove rfl) rfl ?_)
  refine lGY rfl rfl rfl (oV (yEql rfl rfl) rfl ?_)
  refine known (t := 145) rfl (by decide) ?_
  refine lV (yPickT rfl rfl) rfl rfl ?_
  refine lV (yMove rfl) rfl rfl ?_
  refine lGY rfl rfl rfl (oV (yMove rfl) rfl ?_)
  refine lGY rfl rfl rfl (oV (yEql rfl rfl) rfl ?_)
  refine known (t := 149) rfl (by decide) ?_
  refine lV (yPickT rfl rfl) rfl rfl ?_
  refine lV (yAssign rfl) rfl rfl ?_
  refine lNil ?_
  refine kThen ?_
  refine kRet ?_
  refine fRet rfl (.t rfl .n) (endRet ?_)
  rfl
end Go.Proofs.Ytoefcofplkbnkaa
