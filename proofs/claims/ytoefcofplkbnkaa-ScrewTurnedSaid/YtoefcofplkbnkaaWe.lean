/-
  Walks: a measure is opened; what some settings tell.
-/
import Derived.Test.YtoefcofplkbnkaaWd
namespace Go.Proofs.Ytoefcofplkbnkaa
open ZW

set_option maxRecDepth 100000 in
theorem open_bad (y : Loc) (m : Meas) (w : World) (hm : InM w y m) (hM : ¬ MeasOk m) : Calls Try.prog 67 [.agg (measC y m).toArray].toArray w (Pan w (.iface 106 (.agg [i64 1].toArray))) := by
  refine fEnter Try.func67 rfl Try.ntmps67 rfl ?_
  refine kSeq ?_
  refine kRegion rfl ?_
  refine lE rfl ?_
  refine eBoxA rfl fun n1 => ?_
  refine lV (yAssign rfl) rfl rfl ?_
  refine lNil ?_
  refine kThen ?_
  refine kSeq ?_
  refine kRegion rfl ?_
  refine lV (yLoadA (vs := [_, _, _, _, _, _, _]) rfl A29 (cOwn 0 rfl rfl)) rfl rfl ?_
  refine lV (yCall rfl (.c rfl .n) C86 (fun w hw => isMeasure_any y m w (hm.eff hw))) rfl rfl ?_
  refine knownB (t := 8) (c := false) rfl (decide_eq_false hM) ?_
  refine lE rfl ?_
  refine eCallP rfl (.c rfl (.c rfl .n)) C85 (fun w hw => need_pan 1 w) ?_
  refine kThenP ?_
  exact fPan (endPan rfl)

theorem told_get (m : Meas) {i : Nat} (hi : i < m.sets.length) : (toldP m).getD i told0 = ((m.sets.getD i (0, 0, false)).1.toNat, travelP m (m.sets.getD i (0, 0, false)).2.1, (m.sets.getD i (0, 0, false)).2.2) := by
  rw [← List.getElem_eq_getD (h := by rw [toldP_length]; exact hi), ← List.getElem_eq_getD (h := hi)]
  simp [toldP]
theorem told_take (m : Meas) {i : Nat} (hi : i < m.sets.length) : ((toldP m).take (i + 1)).map rowT = ((toldP m).take i).map rowT ++ [rowT ((toldP m).getD i told0)] := by
  have hl : i < (toldP m).length := by rw [toldP_length]; exact hi
  rw [List.take_add_one, List.map_append, List.getElem?_eq_getElem hl, ← List.getElem_eq_getD (h := hl)]
  rfl
theorem told_row1 (m : Meas) {i : Nat} (hi : i < m.sets.length) (h : (m.sets.getD i (0, 0, false)).2.2 = true) : rowT ((toldP m).getD i told0) =
    [.iface 112 (.agg [i64 ((m.sets.getD i (0, 0, false)).1.toNat : Nat), i64 (travelP m (m.sets.getD i (0, 0, false)).2.1).1, i64 (travelP m (m.sets.getD i (0, 0, false)).2.1).2].toArray)] := by
  rw [told_get m hi]; simp only [rowT, tellV, h, if_true]
theorem told_row2 (m : Meas) {i : Nat} (hi : i < m.sets.length) (h : (m.sets.getD i (0, 0, false)).2.2 = false) : rowT ((toldP m).getD i told0) =
    [.iface 113 (.agg [i64 ((m.sets.getD i (0, 0, false)).1.toNat : Nat), i64 (travelP m (m.sets.getD i (0, 0, false)).2.1).1, i64 (travelP m (m.sets.getD i (0, 0, false)).2.1).2].toArray)] := by
  rw [told_get m hi]; simp only [rowT, tellV, h, Bool.false_eq_true, if_false]

/-- What opening a measure makes. -/
abbrev openL (y : Loc) (m : Meas) (x : Nat × Own) : Heap := [(x.1, blk (msC y m x.2 m.sets.length) 98)] ++ osL 117 x.2

set_option maxRecDepth 100000 in
theorem open_any (y : Loc) (m : Meas) (w : World) (hm : InM w y m) (hM : MeasOk m) : Calls Try.prog 67 [.agg (measC y m).toArray].toArray w
    (RetX w (fun x : Nat × Own => OS 1 x.2 ((toldP m).map rowT)) (fun x => .pointer (some ⟨x.1, 0, none⟩)) (fun _ => []) (openL y m)) := by
  have hN := hM.n
  refine fEnter Try.func67 rfl Try.ntmps67 rfl ?_
  refine kSeq ?_
  refine kRegion rfl ?_
  refine lE rfl ?_
  refine eBoxA rfl fun n1 => ?_
  refine lV (yAssign rfl) rfl rfl ?_
  refine lNil ?_
  refine kThen ?_
  refine kSeq ?_
  refine kRegion rfl ?_
  refine lV (yLoadA (vs := [_, _, _, _, _, _, _]) rfl A29 (cOwn 0 rfl rfl)) rfl rfl ?_
  refine lV (yCall rfl (.c rfl .n) C86 (fun w hw => isMeasure_any y m w (hm.eff hw))) rfl rfl ?_
  refine knownB (t := 8) (c := true) rfl (decide_eq_true hM) ?_
  refine lV (yCall rfl (.c rfl (.c rfl .n)) C85 (fun w hw => need_ok 1 w)) rfl rfl ?_
  refine lNil ?_
  refine kThen ?_
  refine kSeq ?_
  refine kRegion rfl ?_
  refine lV (yLoadA (vs := [_, _, _, _, _, _, _]) rfl A29 (cOwn 0 rfl rfl)) rfl rfl ?_
  refine lV (yBuild (.c rfl .n) (fun w => B98_0 w)) rfl rfl ?_
  refine lE rfl ?_
  refine eBoxA rfl fun n12 => ?_
  refine lV (yAssign rfl) rfl rfl ?_
  refine lNil ?_
  refine kThen ?_
  refine kSeq ?_
  refine kSeq ?_
  refine kRegion rfl ?_
  refine lV (yFieldAddr rfl F29_3) rfl rfl ?_
  refine lV (yLoad1 rfl O27 (cOwn 1 rfl rfl)) rfl rfl ?_
  refine lV (yLen rfl S27) rfl rfl ?_
  refine lV (yMove rfl) rfl rfl ?_
  refine lNil ?_
  refine kThen ?_
  refine kBlock ?_
  refine kLoopX (ι := Nat × Own × List (List Value)) (fun x => x.1 ≤ m.sets.length ∧ x.2.2 = ((toldP m).take x.1).map rowT ∧ OS 1 x.2.1 x.2.2) (fun x => [(16, i64 (x.1 : Nat))]) [(0, _), (1, _), (2, _), (7, _), (8, _), (9, _), (10, _), (11, _), (12, _), (3, _), (13, _), (14, _), (15, _)] (fun x => []) (fun x => ([(n12, blk (msC y m x.2.1 x.2.2.length) 98)] ++ osL 117 x.2.1)) [(n1, _)] (fun x => m.sets.length - x.1) (0, .e none, []) (⟨Nat.zero_le _, by simp, OS.empty⟩) rfl (.c rfl .n) (.c rfl (.c rfl (.c rfl (.c rfl (.c rfl (.c rfl (.c rfl (.c rfl (.c rfl (.c rfl (.c rfl (.c rfl (.c rfl .n))))))))))))) (.c 1 rfl (.c 0 rfl .n)) ?_
  rintro ⟨i, g, es⟩ ⟨hi, hes, hg⟩
  dsimp only at hi hes hg ⊢
  refine kSeq ?_
  refine kRegion rfl ?_
  refine lV (yLss rfl rfl) rfl rfl ?_
  refine lNil ?_
  refine kThen ?_
  refine kSeq ?_
  refine split (t := 17) rfl (fun h17 => ?_) (fun h17 => ?_)
  · refine kIfT rfl ?_
    refine kSkip ?_
    refine kThen ?_
    refine kSeq ?_
    refine kBlock ?_
    refine kSeq ?_
    refine kRegion rfl ?_
    refine lV (yIndexS  rfl rfl S27 (hm.s.r) ((by omega))) rfl rfl ?_
    refine lV (yLoadA (vs := [_, _, _]) rfl A49 (cSl0 (hm.s.r) ((by omega)) rfl)) rfl rfl ?_
    refine lE rfl ?_
    refine eAlloc Z49 fun n5 => ?_
    refine lE rfl ?_
    refine eStoreL 0 rfl rfl rfl rfl K49 rfl (rfl) ?_
    refine lNil ?_
    refine kThen ?_
    refine kSeq ?_
    refine kRegion rfl ?_
    refine lV (yFieldAddr rfl F29_0) rfl rfl ?_
    refine lV (yLoadA (vs := [_, _, _]) rfl A26 (cOwn 1 rfl rfl)) rfl rfl ?_
    refine lV (yFieldAddr rfl F49_1) rfl rfl ?_
    refine lV (yLoad1 rfl O3 (cOwn 0 rfl rfl)) rfl rfl ?_
    refine lV (yCall rfl (.c rfl (.c rfl .n)) C49 (fun w hw => travel_any y m _ w (hm.eff hw) hM.s (hM.a _ (getD_mem (by omega) _)).2)) rfl rfl ?_
    refine lE rfl ?_
    refine eAlloc Z69 fun n6 => ?_
    refine lE rfl ?_
    refine eStoreL 0 rfl rfl rfl rfl K69 rfl (rfl) ?_
    refine lNil ?_
    refine kThen ?_
    refine kSeq ?_
    refine kRegion rfl ?_
    refine lV (yFieldAddr rfl F49_2) rfl rfl ?_
    refine lV (yLoad1 rfl O4 (cOwn 1 rfl rfl)) rfl rfl ?_
    refine lNil ?_
    refine kThen ?_
    refine splitB (t := 26) rfl (fun h26 => ?_) (fun h26 => ?_)
    · refine kIfT rfl ?_
      refine kDrawE [(4, none), (6, none), (7, none)] [] [0, 1, 2, 3, 4, 5, 6, 7, 8, 9, 12, 13] 3 hMix (by kernel_rfl) ?_
      refine .run rfl (yMove rfl) rfl rfl ?_
      refine .run rfl (yMove rfl) rfl rfl ?_
      refine .run rfl (yNilCheckP rfl) rfl rfl ?_
      refine .run rfl (yFieldAddr rfl F98_1) rfl rfl ?_
      refine .run rfl (yLoad1 rfl O96 (cOwn 3 rfl rfl)) rfl rfl ?_
      refine .run rfl (yFieldAddr rfl F49_0) rfl rfl ?_
      refine .run rfl (yvSame (u := i64 ((m.sets.getD i (0, 0, false)).1.toNat : Nat)) (yLoad1 rfl O3 (cOwn 1 rfl rfl)) (by rw [Int.toNat_of_nonneg (hM.a _ (getD_mem (by omega) _)).1.1])) rfl rfl ?_
      refine .run rfl (yLoadA (vs := [_, _]) rfl A69 (cOwn 0 rfl rfl)) rfl rfl ?_
      refine .run rfl (yBuild (.c rfl (.c rfl .n)) (fun w => B112_0_1 w)) rfl rfl ?_
      refine .run rfl (yMakeInterface rfl I112) rfl rfl ?_
      refine .run rfl (yNilCheckP rfl) rfl rfl ?_
      refine .run rfl (yFieldAddr rfl F98_1) rfl rfl ?_
      refine .done ?_
      refine effStep 10 [] (by kernel_rfl) closedSt (hLeft [4, 6, 7] (by kernel_rfl) (.c (fun _ _ hs => hs.ef) (.c (fun _ _ hs => hs.ef) (.c (fun _ _ hs => hs.ef) .n)))) ?_
      refine .c ?_ .n
      refine effOne rfl (gNone rfl (fBuildSlice (.c rfl .n) (fun w => BS96_1_0 w))) ?_
      refine effStep 11 [] (by kernel_rfl) (closedEx fun n37 => closedSt) (hLeft [4] (by kernel_rfl) (.c (fun _ _ ⟨n37, hs⟩ => hs.ef.sub (.c 1 rfl (.c 1 rfl (.c 1 rfl (.c 1 rfl (.d 0 .r)))))) .n)) ?_
      refine .c ?_ .n
      refine effOne rfl (opEx fun n37 => (gNone rfl (fAppend (gs := g) [(n37, _), (n6, _), (n5, _), (n1, _), (n12, _)] [rowT ((toldP m).getD i told0)] AP96 rfl rfl .r hg rfl (by simp) (SlN.own 0 rfl (by rw [told_row1 m (i := i) (by omega) h26]; rfl)) (by rw [told_row1 m (i := i) (by omega) h26]; simp; rfl) (by have := hM.n; simp [hes, toldP]; omega) (by have := hM.n; simp [hes, toldP]; omega)))) ?_
      refine effStep 14 [] (by kernel_rfl) (closedEx fun n37 => (closedEx fun h => closedSt)) (hLeft [] (by kernel_rfl) .n) ?_
      refine .c ?_ .n
      refine effOne rfl (opEx fun n37 => (opEx fun h => (gNone rfl (fStoreL 4 rfl rfl rfl rfl K96 rfl (rfl))))) ?_
      refine effDone (closedEx fun n37 => (closedEx fun h => closedSt)) (hLeft [] (by kernel_rfl) .n) (by kernel_rfl) ?_
      refine trEx fun n37 => ?_
      refine trEx fun h => ?_
      refine kInN ?_
      refine kThen ?_
      refine kRegion rfl ?_
      refine lV (yAdd rfl rfl (by omega)) rfl rfl ?_
      refine lV (yMove rfl) rfl rfl ?_
      refine lNil ?_
      exact kRoundX (i + 1, h.1, es ++ [rowT ((toldP m).getD i told0)]) (⟨by dsimp only; omega, by dsimp only; rw [told_take m (by omega), hes], h.2⟩) (by dsimp only; omega) rfl (.c rfl .n) (.c rfl (.c rfl (.c rfl (.c rfl (.c rfl (.c rfl (.c rfl (.c rfl (.c rfl (.c rfl (.c rfl (.c rfl (.c rfl .n))))))))))))) (.c 3 rfl (.c 3 rfl (.d 0 (.d 0 (.d 0 .r)))))
    · refine kIfF rfl ?_
      refine kDrawE [(4, none), (6, none), (7, none)] [] [0, 1, 2, 3, 4, 5, 6, 7, 8, 9, 12, 13] 3 hMix (by kernel_rfl) ?_
      refine .run rfl (yMove rfl) rfl rfl ?_
      refine .run rfl (yMove rfl) rfl rfl ?_
      refine .run rfl (yNilCheckP rfl) rfl rfl ?_
      refine .run rfl (yFieldAddr rfl F98_1) rfl rfl ?_
      refine .run rfl (yLoad1 rfl O96 (cOwn 3 rfl rfl)) rfl rfl ?_
      refine .run rfl (yFieldAddr rfl F49_0) rfl rfl ?_
      refine .run rfl (yvSame (u := i64 ((m.sets.getD i (0, 0, false)).1.toNat : Nat)) (yLoad1 rfl O3 (cOwn 1 rfl rfl)) (by rw [Int.toNat_of_nonneg (hM.a _ (getD_mem (by omega) _)).1.1])) rfl rfl ?_
      refine .run rfl (yLoadA (vs := [_, _]) rfl A69 (cOwn 0 rfl rfl)) rfl rfl ?_
      refine .run rfl (yBuild (.c rfl (.c rfl .n)) (fun w => B113_0_1 w)) rfl rfl ?_
      refine .run rfl (yMakeInterface rfl I113) rfl rfl ?_
      refine .run rfl (yNilCheckP rfl) rfl rfl ?_
      refine .run rfl (yFieldAddr rfl F98_1) rfl rfl ?_
      refine .done ?_
      refine effStep 10 [] (by kernel_rfl) closedSt (hLeft [4, 6, 7] (by kernel_rfl) (.c (fun _ _ hs => hs.ef) (.c (fun _ _ hs => hs.ef) (.c (fun _ _ hs => hs.ef) .n)))) ?_
      refine .c ?_ .n
      refine effOne rfl (gNone rfl (fBuildSlice (.c rfl .n) (fun w => BS96_1_0 w))) ?_
      refine effStep 11 [] (by kernel_rfl) (closedEx fun n51 => closedSt) (hLeft [4] (by kernel_rfl) (.c (fun _ _ ⟨n51, hs⟩ => hs.ef.sub (.c 1 rfl (.c 1 rfl (.c 1 rfl (.c 1 rfl (.d 0 .r)))))) .n)) ?_
      refine .c ?_ .n
      refine effOne rfl (opEx fun n51 => (gNone rfl (fAppend (gs := g) [(n51, _), (n6, _), (n5, _), (n1, _), (n12, _)] [rowT ((toldP m).getD i told0)] AP96 rfl rfl .r hg rfl (by simp) (SlN.own 0 rfl (by rw [told_row2 m (i := i) (by omega) h26]; rfl)) (by rw [told_row2 m (i := i) (by omega) h26]; simp; rfl) (by have := hM.n; simp [hes, toldP]; omega) (by have := hM.n; simp [hes, toldP]; omega)))) ?_
      refine effStep 14 [] (by kernel_rfl) (closedEx fun n51 => (closedEx fun h => closedSt)) (hLeft [] (by kernel_rfl) .n) ?_
      refine .c ?_ .n
      refine effOne rfl (opEx fun n51 => (opEx fun h => (gNone rfl (fStoreL 4 rfl rfl rfl rfl K96 rfl (rfl))))) ?_
      refine effDone (closedEx fun n51 => (closedEx fun h => closedSt)) (hLeft [] (by kernel_rfl) .n) (by kernel_rfl) ?_
      refine trEx fun n51 => ?_
      refine trEx fun h => ?_
      refine kInN ?_
      refine kThen ?_
      refine kRegion rfl ?_
      refine lV (yAdd rfl rfl (by omega)) rfl rfl ?_
      refine lV (yMove rfl) rfl rfl ?_
      refine lNil ?_
      exact kRoundX (i + 1, h.1, es ++ [rowT ((toldP m).getD i told0)]) (⟨by dsimp only; omega, by dsimp only; rw [told_take m (by omega), hes], h.2⟩) (by dsimp only; omega) rfl (.c rfl .n) (.c rfl (.c rfl (.c rfl (.c rfl (.c rfl (.c rfl (.c rfl (.c rfl (.c rfl (.c rfl (.c rfl (.c rfl (.c rfl .n))))))))))))) (.c 3 rfl (.c 3 rfl (.d 0 (.d 0 (.d 0 .r)))))
  · refine kIfF rfl ?_
    refine kExit ?_
    refine kThenX ?_
    refine kThenX ?_
    refine kInX ?_
    refine kThen ?_
    refine kSeq ?_
    refine kRegion rfl ?_
    refine lV (yMove rfl) rfl rfl ?_
    refine lV (yAssign rfl) rfl rfl ?_
    refine lNil ?_
    refine kThen ?_
    refine kRet ?_
    refine fRet rfl (.t rfl .n) ?_
    have hl : es = (toldP m).map rowT := by rw [hes, List.take_of_length_le (by rw [toldP_length]; omega)]
    have hn : es.length = m.sets.length := by rw [hl, List.length_map, toldP_length]
    rw [hn]
    exact endX (n12, g) (hl ▸ hg) rfl rfl (.d 0 .r)
end Go.Proofs.Ytoefcofplkbnkaa
