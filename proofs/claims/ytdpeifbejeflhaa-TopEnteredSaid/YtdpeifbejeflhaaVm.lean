/-
  Walks: the plates that are needed.
-/
import Derived.Test.YtdpeifbejeflhaaVl
namespace Go.Proofs.Ytdpeifbejeflhaa
open ZW

section
variable (y : Option Addr × Nat) (f : Fld)
set_option maxRecDepth 100000 in
set_option maxHeartbeats 4000000 in
theorem needed_any (w : World) (hm : InF w y f) (hF : FldOk f) (hG : f.times = 1 ∨ 1 ≤ f.gap) : Calls Try.prog 9 [.agg (fldC y f).toArray].toArray w (Ret w (outI (needE f))) := by
  have hfl := fullF_lt hF
  have hul := useS_lt f hF
  have hl12 := hF.l
  refine fEnter Try.func9 rfl Try.ntmps9 rfl ?_
  refine kSeq ?_
  refine kRegion rfl ?_
  refine lE rfl ?_
  refine eBoxA rfl fun n1 => ?_
  refine lV (yAssign rfl) rfl rfl ?_
  refine lE rfl ?_
  refine eAlloc Z33 fun n3 => ?_
  refine lNil ?_
  refine kThen ?_
  refine kSeq ?_
  refine kRegion rfl ?_
  refine lE rfl ?_
  refine eDefer rfl (.c rfl .n) ?_
  refine lNil ?_
  refine kThen ?_
  refine kSeq ?_
  refine kRegion rfl ?_
  refine lV (yLoadA (vs := [_, _, _, _, _, _, _, _, _, _]) rfl A30 (cOwn 1 rfl rfl)) rfl rfl ?_
  refine lE rfl ?_
  refine eCallO rfl (.c rfl .n) C23 (fun w hw => open_any y f w (hm.eff0 hw) hF) fun x hx => ?_
  obtain ⟨nf, nm, es⟩ := x
  dsimp only at hx ⊢
  refine lV (yAssign rfl) rfl rfl ?_
  refine lNil ?_
  refine kThen ?_
  refine kSeq ?_
  refine kDrawE [(5, some [2])] [] [0, 2, 3, 4, 5, 6, 8] 2 hMix (by kernel_rfl) ?_
  refine .run rfl (yMove rfl) rfl rfl ?_
  refine .run rfl (yMove rfl) rfl rfl ?_
  refine .run rfl (yNilCheckP rfl) rfl rfl ?_
  refine .run rfl (yFieldAddr rfl F81_1) rfl rfl ?_
  refine .run rfl (yLoad1 rfl O71 (cOwn 0 rfl rfl)) rfl rfl ?_
  refine .run rfl (yMakeFunc (.c rfl .n) .n) rfl rfl ?_
  refine .run rfl (yAssign rfl) rfl rfl ?_
  refine .done ?_
  refine effStep 1 [] (by kernel_rfl) closedSt (hLeft [5] (by kernel_rfl) (.c (fun _ _ hs => hs.ef.sub (.k rfl (.k rfl (.h rfl .n)))) .n)) ?_
  refine .c ?_ .n
  refine effOne rfl (gNone rfl (fCallO rfl (.c rfl .n) C26 (fun w hw => isList_any y f nm nf es w ⟨hw.blkAt 2 rfl, hw.blkAt 3 rfl, hx, hm.eff0 hw⟩ hF))) ?_
  refine effStep 7 [] (by kernel_rfl) (closedEx fun x => closedSt) (hLeft [5] (by kernel_rfl) (.c (fun _ _ ⟨x, hs⟩ => hs.ef.sub (.k rfl (.k rfl (.h rfl .n)))) .n)) ?_
  refine .c ?_ .n
  refine effOne rfl (opEx fun x => (gNone rfl (fV (yAssign rfl) rfl))) ?_
  refine effDone (closedEx fun x => closedSt) (hLeft [5] (by kernel_rfl) (.c (fun _ _ ⟨x, hs⟩ => hs.ef.sub (.k rfl (.k rfl (.h rfl .n)))) .n)) (by kernel_rfl) ?_
  refine trEx fun x => ?_
  obtain ⟨⟨⟨g, ks⟩, l3, l1⟩, hx2⟩ := x
  dsimp only at hx2 ⊢
  refine kThen ?_
  refine kSeq ?_
  by_cases hl : listB f (useS f) = true
  · refine kRegion rfl ?_
    refine lV (yMove rfl) rfl rfl ?_
    refine lV (yMove rfl) rfl rfl ?_
    refine lV (yNilCheckP rfl) rfl rfl ?_
    refine lV (yFieldAddr rfl F81_1) rfl rfl ?_
    refine lV (yLoad1 rfl O71 (cOwn 2 rfl rfl)) rfl rfl ?_
    refine lV (yCall rfl (.c rfl .n) C49 (fun w hw => list_call y f nm nf es l3 l1 (useS f) g ks w ⟨hw.blkAt 2 rfl, hw.blkAt 3 rfl, hx, hm.eff0 hw⟩ ⟨hw.blkAt 5 rfl, hw.blkAt 4 rfl, OS.rowsE (f := rowU) 0 hx2.1 hw (.k rfl (.k rfl (.k rfl (.k rfl (.k rfl (.k rfl .r)))))), hx2.2.2, hx2.2.1⟩ hF hG hul)) rfl rfl ?_
    refine knownB (t := 22) (c := true) rfl (hl) ?_
    refine lV (yCall rfl (.c rfl (.c rfl .n)) C28 (fun w hw => kmust_ok 4 w)) rfl rfl ?_
    refine lNil ?_
    refine kThen ?_
    refine kSeq ?_
    refine kSeq ?_
    refine kRegion rfl ?_
    refine lV (yFieldAddr rfl F30_0) rfl rfl ?_
    refine lV (yLoad1 rfl O28 (cOwn 1 rfl rfl)) rfl rfl ?_
    refine lV (yLen rfl S28) rfl rfl ?_
    refine lV (yMove rfl) rfl rfl ?_
    refine lNil ?_
    refine kThen ?_
    refine kBlock ?_
    refine kLoopX (ι := Nat) (fun i => i ≤ f.ps.length) (fun i => [(27, i64 (i : Nat)), (2, i64 (setB (needB f) i : Nat))]) [(0, _), (1, _), (3, _), (8, _), (9, _), (4, _), (10, _), (12, _), (13, _), (14, _), (15, _), (16, _), (6, _), (11, _), (5, _), (17, _), (18, _), (19, _), (20, _), (21, _), (22, _), (23, _), (24, _), (25, _), (26, _)] (fun i => []) (fun i => (osL 71 g)) [(n3, _), (n1, _), (nf, _), (nm, _), (l3, _), (l1, _)] (fun i => f.ps.length - i) 0 (Nat.zero_le _) rfl (.c rfl (.c rfl .n)) (.c rfl (.c rfl (.c rfl (.c rfl (.c rfl (.c rfl (.c rfl (.c rfl (.c rfl (.c rfl (.c rfl (.c rfl (.c rfl (.c rfl (.c rfl (.c rfl (.c rfl (.c rfl (.c rfl (.c rfl (.c rfl (.c rfl (.c rfl (.c rfl (.c rfl .n))))))))))))))))))))))))) (.h rfl (.h rfl (.h rfl (.h rfl (.h rfl (.h rfl .r)))))) ?_
    rintro i hi
    refine kSeq ?_
    refine kRegion rfl ?_
    refine lV (yLss rfl rfl) rfl rfl ?_
    refine lNil ?_
    refine kThen ?_
    refine kSeq ?_
    refine split (t := 28) rfl (fun h28 => ?_) (fun h28 => ?_)
    · refine kIfT rfl ?_
      refine kSkip ?_
      refine kThen ?_
      refine kSeq ?_
      refine kBlock ?_
      refine kSeq ?_
      refine kRegion rfl ?_
      refine lV (yMove rfl) rfl rfl ?_
      refine lV (yAssign rfl) rfl rfl ?_
      refine lNil ?_
      refine kThen ?_
      refine kSeq ?_
      by_cases hu : useB f i = true
      · by_cases hn : listB f (less (useS f) (1 * 2 ^ i)) = true
        · have hlt := setB_lt (needB f) i
          have hp11 : 2 ^ i ≤ 2 ^ 11 := Nat.pow_le_pow_right (by omega) (by omega)
          have hub : (useS f).testBit i = useB f i := by rw [setB_bit, decide_eq_true (by omega : i < f.ps.length), Bool.true_and]
          have hless : less (useS f) (1 * 2 ^ i) < 8192 := less_lt (n := 13) hul
          refine kDrawE [(2, none), (8, none), (12, none)] [] [0, 1, 2, 3, 4, 5, 6, 7, 8, 9, 10, 11, 12, 13, 14] 0 hMix (by kernel_rfl) ?_
          refine .run rfl (yMove rfl) rfl rfl ?_
          refine .run rfl (yMove rfl) rfl rfl ?_
          refine .run rfl (yvIs (c := true) (yCall rfl (.c rfl .n) C27 (fun w hw => khas_any (useS f) i w (by omega) (by omega))) (by rw [hub, hu])) rfl rfl ?_
          refine .run rfl (yMove rfl) rfl rfl ?_
          refine .runG rfl (yMove rfl) rfl rfl rfl rfl ?_
          refine .runG rfl (yMove rfl) rfl rfl rfl rfl ?_
          refine .runG rfl (yNilCheckP rfl) rfl rfl rfl rfl ?_
          refine .runG rfl (yFieldAddr rfl F81_1) rfl rfl rfl rfl ?_
          refine .runG rfl (yLoad1 rfl O71 (cOwn 2 rfl rfl)) rfl rfl rfl rfl ?_
          refine .runG rfl (yMove rfl) rfl rfl rfl rfl ?_
          refine .runG rfl (yShl (a := 1) rfl rfl rfl (by omega) (by omega)) rfl rfl rfl rfl ?_
          refine .runG rfl (yAndNot rfl rfl rfl (by omega) (by omega)) rfl rfl rfl rfl ?_
          refine .runG rfl (yvIs (c := true) (yCall rfl (.c rfl .n) C49 (fun w hw => list_call y f nm nf es l3 l1 (less (useS f) (1 * 2 ^ i)) g ks w ⟨hw.blkAt 2 rfl, hw.blkAt 3 rfl, hx, hm.eff0 hw⟩ ⟨hw.blkAt 5 rfl, hw.blkAt 4 rfl, OS.rowsE (f := rowU) 0 hx2.1 hw (.k rfl (.k rfl (.k rfl (.k rfl (.k rfl (.k rfl .r)))))), hx2.2.2, hx2.2.1⟩ hF hG hless)) (hn)) rfl rfl rfl rfl ?_
          refine .runG rfl (yNot rfl) rfl rfl rfl rfl ?_
          refine .run rfl (yPickT rfl rfl) rfl rfl ?_
          refine .done ?_
          refine effDone closedSt (hLeft [2, 8, 12] (by kernel_rfl) (.c (fun _ _ hs => hs.ef) (.c (fun _ _ hs => hs.ef) (.c (fun _ _ hs => hs.ef) .n)))) (by kernel_rfl) ?_
          refine kThen ?_
          refine kIfF rfl ?_
          refine kSkip ?_
          refine kInN ?_
          refine kThen ?_
          have hst : setB (needB f) (i + 1) = setB (needB f) i := by show (if needB f i = true then _ else _) = _; rw [if_neg (by unfold needB; rw [hn, hu]; simp)]
          refine kRegion rfl ?_
          refine lV (yAdd rfl rfl (by omega)) rfl rfl ?_
          refine lV (yMove rfl) rfl rfl ?_
          refine lNil ?_
          exact kRoundX (i + 1) (by omega) (by omega) rfl (.c rfl (.c (by rw [hst]; exact rfl) .n)) (.c rfl (.c rfl (.c rfl (.c rfl (.c rfl (.c rfl (.c rfl (.c rfl (.c rfl (.c rfl (.c rfl (.c rfl (.c rfl (.c rfl (.c rfl (.c rfl (.c rfl (.c rfl (.c rfl (.c rfl (.c rfl (.c rfl (.c rfl (.c rfl (.c rfl .n))))))))))))))))))))))))) (.h rfl (.h rfl (.h rfl (.h rfl (.h rfl (.h rfl .r))))))
        · have hlt := setB_lt (needB f) i
          have hp11 : 2 ^ i ≤ 2 ^ 11 := Nat.pow_le_pow_right (by omega) (by omega)
          have hub : (useS f).testBit i = useB f i := by rw [setB_bit, decide_eq_true (by omega : i < f.ps.length), Bool.true_and]
          have hless : less (useS f) (1 * 2 ^ i) < 8192 := less_lt (n := 13) hul
          refine kDrawE [(2, none), (8, none), (12, none)] [] [0, 1, 2, 3, 4, 5, 6, 7, 8, 9, 10, 11, 12, 13, 14] 0 hMix (by kernel_rfl) ?_
          refine .run rfl (yMove rfl) rfl rfl ?_
          refine .run rfl (yMove rfl) rfl rfl ?_
          refine .run rfl (yvIs (c := true) (yCall rfl (.c rfl .n) C27 (fun w hw => khas_any (useS f) i w (by omega) (by omega))) (by rw [hub, hu])) rfl rfl ?_
          refine .run rfl (yMove rfl) rfl rfl ?_
          refine .runG rfl (yMove rfl) rfl rfl rfl rfl ?_
          refine .runG rfl (yMove rfl) rfl rfl rfl rfl ?_
          refine .runG rfl (yNilCheckP rfl) rfl rfl rfl rfl ?_
          refine .runG rfl (yFieldAddr rfl F81_1) rfl rfl rfl rfl ?_
          refine .runG rfl (yLoad1 rfl O71 (cOwn 2 rfl rfl)) rfl rfl rfl rfl ?_
          refine .runG rfl (yMove rfl) rfl rfl rfl rfl ?_
          refine .runG rfl (yShl (a := 1) rfl rfl rfl (by omega) (by omega)) rfl rfl rfl rfl ?_
          refine .runG rfl (yAndNot rfl rfl rfl (by omega) (by omega)) rfl rfl rfl rfl ?_
          refine .runG rfl (yvIs (c := false) (yCall rfl (.c rfl .n) C49 (fun w hw => list_call y f nm nf es l3 l1 (less (useS f) (1 * 2 ^ i)) g ks w ⟨hw.blkAt 2 rfl, hw.blkAt 3 rfl, hx, hm.eff0 hw⟩ ⟨hw.blkAt 5 rfl, hw.blkAt 4 rfl, OS.rowsE (f := rowU) 0 hx2.1 hw (.k rfl (.k rfl (.k rfl (.k rfl (.k rfl (.k rfl .r)))))), hx2.2.2, hx2.2.1⟩ hF hG hless)) (by simpa using hn)) rfl rfl rfl rfl ?_
          refine .runG rfl (yNot rfl) rfl rfl rfl rfl ?_
          refine .run rfl (yPickT rfl rfl) rfl rfl ?_
          refine .done ?_
          refine effDone closedSt (hLeft [2, 8, 12] (by kernel_rfl) (.c (fun _ _ hs => hs.ef) (.c (fun _ _ hs => hs.ef) (.c (fun _ _ hs => hs.ef) .n)))) (by kernel_rfl) ?_
          refine kThen ?_
          refine kIfT rfl ?_
          have hst : setB (needB f) (i + 1) = setB (needB f) i ||| 1 * 2 ^ i := by show (if needB f i = true then _ else _) = _; rw [if_pos (by unfold needB; rw [hu, show listB f (less (useS f) (1 * 2 ^ i)) = false from by simpa using hn]; rfl)]
          refine kRegion rfl ?_
          refine lV (yMove rfl) rfl rfl ?_
          refine lV (yMove rfl) rfl rfl ?_
          refine lV (yShl (a := 1) rfl rfl rfl (by omega) (by omega)) rfl rfl ?_
          refine lV (yOr rfl rfl rfl (by omega) (by omega)) rfl rfl ?_
          refine lV (yAssign rfl) rfl rfl ?_
          refine lNil ?_
          refine kInN ?_
          refine kThen ?_
          refine kRegion rfl ?_
          refine lV (yAdd rfl rfl (by omega)) rfl rfl ?_
          refine lV (yMove rfl) rfl rfl ?_
          refine lNil ?_
          exact kRoundX (i + 1) (by omega) (by omega) rfl (.c rfl (.c (by rw [hst]; exact rfl) .n)) (.c rfl (.c rfl (.c rfl (.c rfl (.c rfl (.c rfl (.c rfl (.c rfl (.c rfl (.c rfl (.c rfl (.c rfl (.c rfl (.c rfl (.c rfl (.c rfl (.c rfl (.c rfl (.c rfl (.c rfl (.c rfl (.c rfl (.c rfl (.c rfl (.c rfl .n))))))))))))))))))))))))) (.h rfl (.h rfl (.h rfl (.h rfl (.h rfl (.h rfl .r))))))
      · have hlt := setB_lt (needB f) i
        have hp11 : 2 ^ i ≤ 2 ^ 11 := Nat.pow_le_pow_right (by omega) (by omega)
        have hub : (useS f).testBit i = useB f i := by rw [setB_bit, decide_eq_true (by omega : i < f.ps.length), Bool.true_and]
        have hless : less (useS f) (1 * 2 ^ i) < 8192 := less_lt (n := 13) hul
        refine kDrawE [(2, none)] [] [0, 1, 2, 3, 4, 5, 6, 7, 8, 9, 10, 11, 12, 13, 14] 0 hMix (by kernel_rfl) ?_
        refine .run rfl (yMove rfl) rfl rfl ?_
        refine .run rfl (yMove rfl) rfl rfl ?_
        refine .run rfl (yvIs (c := false) (yCall rfl (.c rfl .n) C27 (fun w hw => khas_any (useS f) i w (by omega) (by omega))) (by rw [hub]; simpa using hu)) rfl rfl ?_
        refine .run rfl (yMove rfl) rfl rfl ?_
        refine .skip rfl rfl rfl rfl rfl rfl ?_
        refine .skip rfl rfl rfl rfl rfl rfl ?_
        refine .skip rfl rfl rfl rfl rfl rfl ?_
        refine .skip rfl rfl rfl rfl rfl rfl ?_
        refine .skip rfl rfl rfl rfl rfl rfl ?_
        refine .skip rfl rfl rfl rfl rfl rfl ?_
        refine .skip rfl rfl rfl rfl rfl rfl ?_
        refine .skip rfl rfl rfl rfl rfl rfl ?_
        refine .skip rfl rfl rfl rfl rfl rfl ?_
        refine .skip rfl rfl rfl rfl rfl rfl ?_
        refine .run rfl (yPickF rfl rfl) rfl rfl ?_
        refine .done ?_
        refine effDone closedSt (hLeft [2] (by kernel_rfl) (.c (fun _ _ hs => hs.ef) .n)) (by kernel_rfl) ?_
        refine kThen ?_
        refine kIfF rfl ?_
        refine kSkip ?_
        refine kInN ?_
        refine kThen ?_
        have hst : setB (needB f) (i + 1) = setB (needB f) i := by show (if needB f i = true then _ else _) = _; rw [if_neg (by unfold needB; rw [show useB f i = false from by simpa using hu]; simp)]
        refine kRegion rfl ?_
        refine lV (yAdd rfl rfl (by omega)) rfl rfl ?_
        refine lV (yMove rfl) rfl rfl ?_
        refine lNil ?_
        exact kRoundX (i + 1) (by omega) (by omega) rfl (.c rfl (.c (by rw [hst]; exact rfl) .n)) (.c rfl (.c rfl (.c rfl (.c rfl (.c rfl (.c rfl (.c rfl (.c rfl (.c rfl (.c rfl (.c rfl (.c rfl (.c rfl (.c rfl (.c rfl (.c rfl (.c rfl (.c rfl (.c rfl (.c rfl (.c rfl (.c rfl (.c rfl (.c rfl (.c rfl .n))))))))))))))))))))))))) (.h rfl (.h rfl (.h rfl (.h rfl (.h rfl (.h rfl .r))))))
    · refine kIfF rfl ?_
      refine kExit ?_
      refine kThenX ?_
      refine kThenX ?_
      refine kInX ?_
      refine kThen ?_
      refine kSeq ?_
      refine kRegion rfl ?_
      refine lV (yMove rfl) rfl rfl ?_
      refine lV (yAssign rfl) rfl rfl ?_
      refine lE rfl ?_
      refine eStoreL 0 rfl rfl rfl rfl K33 rfl (rfl) ?_
      refine lNil ?_
      refine kThen ?_
      refine kRet ?_
      obtain rfl : i = f.ps.length := by omega
      refine kfRetE rfl (.t rfl (.c1 rfl O33 (cOwn 0 rfl rfl) .n)) (endRet ?_)
      simp only [packV, needE, if_pos hl]
  · refine kRegion rfl ?_
    refine lV (yMove rfl) rfl rfl ?_
    refine lV (yMove rfl) rfl rfl ?_
    refine lV (yNilCheckP rfl) rfl rfl ?_
    refine lV (yFieldAddr rfl F81_1) rfl rfl ?_
    refine lV (yLoad1 rfl O71 (cOwn 2 rfl rfl)) rfl rfl ?_
    refine lV (yCall rfl (.c rfl .n) C49 (fun w hw => list_call y f nm nf es l3 l1 (useS f) g ks w ⟨hw.blkAt 2 rfl, hw.blkAt 3 rfl, hx, hm.eff0 hw⟩ ⟨hw.blkAt 5 rfl, hw.blkAt 4 rfl, OS.rowsE (f := rowU) 0 hx2.1 hw (.k rfl (.k rfl (.k rfl (.k rfl (.k rfl (.k rfl .r)))))), hx2.2.2, hx2.2.1⟩ hF hG hul)) rfl rfl ?_
    refine knownB (t := 22) (c := false) rfl (by simpa using hl) ?_
    refine lE rfl ?_
    refine eCallP rfl (.c rfl (.c rfl .n)) C28 (fun w hw => kmust_pan 4 w) ?_
    refine kThenP ?_
    refine kfPanE 0 rfl rfl (.t rfl (.c1 rfl O33 (cOwn 0 rfl rfl) .n)) (endRet ?_)
    simp only [packV, needE, if_neg hl]
end
end Go.Proofs.Ytdpeifbejeflhaa
