/-
  Walk: TopAlone.
-/
import Derived.Test.YtiaaidcdoenloaaTi
import Derived.Test.YtiaaidcdoenloaaQj
namespace Go.Proofs.Ytiaaidcdoenloaa
open ZW

set_option maxRecDepth 100000 in
theorem watch03_any (w : World) : Calls Try.prog 70 [].toArray w
    (RetX w (fun _ : Nat × Nat => True) (fun x => .agg (watC (locW x.1 x.2) sam).toArray) (fun _ => []) (fun x => [(x.1, blk errs4 24), (x.2, blk looks5 47)])) := by
  refine fEnter Try.func70 rfl Try.ntmps70 rfl ?_
  refine kSeq ?_
  refine kRegion rfl ?_
  refine lE rfl ?_
  refine eAlloc Z29 fun n0 => ?_
  refine lNil ?_
  refine kThen ?_
  refine kSeq ?_
  refine kRegion rfl ?_
  refine lV (yBuild (.c rfl (.c rfl .n)) (fun w => B24_0_1 w)) rfl rfl ?_
  refine lV (yBuild (.c rfl (.c rfl .n)) (fun w => B24_0_1 w)) rfl rfl ?_
  refine lV (yBuild (.c rfl (.c rfl .n)) (fun w => B24_0_1 w)) rfl rfl ?_
  refine lV (yBuild (.c rfl (.c rfl .n)) (fun w => B24_0_1 w)) rfl rfl ?_
  refine lE rfl ?_
  refine eBuildSlice (.c rfl (.c rfl (.c rfl (.c rfl .n)))) (fun w => BS22_4_0_1_2_3 w) fun n6 => ?_
  refine lV (yBuild (.c rfl (.c rfl .n)) (fun w => B24_0_1 w)) rfl rfl ?_
  refine lV (yBuild (.c rfl (.c rfl .n)) (fun w => B26_0_1 w)) rfl rfl ?_
  refine lE rfl ?_
  refine eAlloc Z26 fun n1 => ?_
  refine lE rfl ?_
  refine eStoreL 0 rfl rfl rfl rfl K26 rfl (rfl) ?_
  refine lNil ?_
  refine kThen ?_
  refine kSeq ?_
  refine kRegion rfl ?_
  refine lV (yLoadA (vs := [_, _, _]) rfl A26 (cOwn 0 rfl rfl)) rfl rfl ?_
  refine lV (yBuild (.c rfl (.c rfl .n)) (fun w => B24_0_1 w)) rfl rfl ?_
  refine lV (yBuild (.c rfl (.c rfl (.c rfl .n))) (fun w => B47_0_1_2 w)) rfl rfl ?_
  refine lV (yBuild (.c rfl (.c rfl (.c rfl .n))) (fun w => B47_0_1_2 w)) rfl rfl ?_
  refine lV (yBuild (.c rfl (.c rfl (.c rfl .n))) (fun w => B47_0_1_2 w)) rfl rfl ?_
  refine lV (yBuild (.c rfl (.c rfl (.c rfl .n))) (fun w => B47_0_1_2 w)) rfl rfl ?_
  refine lV (yBuild (.c rfl (.c rfl (.c rfl .n))) (fun w => B47_0_1_2 w)) rfl rfl ?_
  refine lE rfl ?_
  refine eBuildSlice (.c rfl (.c rfl (.c rfl (.c rfl (.c rfl .n))))) (fun w => BS27_5_0_1_2_3_4 w) fun n16 => ?_
  refine lV (yBuild (.c rfl (.c rfl (.c rfl (.c rfl (.c rfl .n))))) (fun w => B29_0_1_2_3_4 w)) rfl rfl ?_
  refine lE rfl ?_
  refine eStoreL 3 rfl rfl rfl rfl K29 rfl (rfl) ?_
  refine lNil ?_
  refine kThen ?_
  refine kRet ?_
  refine fRet rfl (.cA (us := [_, _, _, _, _, _, _, _]) rfl A29 (cOwn 3 rfl rfl) .n) ?_
  exact endX (n6, n16) trivial rfl rfl (.c 2 rfl (.c 0 rfl .n))
theorem v_travel03 : travelE sam.m 1200 = ((1197, 1208), 0) := by decide
set_option maxRecDepth 100000 in
set_option maxHeartbeats 1000000 in
theorem awake03_any (w : World) : Calls Try.prog 41 [].toArray w (Ret w (.bool true)) := by
  refine fEnter Try.func41 rfl Try.ntmps41 rfl ?_
  refine kSeq ?_
  refine kRegion rfl ?_
  refine lV (yAssign rfl) rfl rfl ?_
  refine lNil ?_
  refine kThen ?_
  refine kSeq ?_
  refine kRegion rfl ?_
  refine lE rfl ?_
  refine eCallX rfl .n C70 (fun w hw => watch03_any w) fun ⟨e, l⟩ _ => ?_
  refine lV (yCall rfl (.c rfl (.c rfl .n)) C15 (fun w hw => habit_any (locW e l) sam 0 w (sam_in (hw.blkAt 0 rfl) (hw.blkAt 1 rfl)) (by decide))) rfl rfl ?_
  refine same (t := 7) (u := outC ((-18, 20), 0)) rfl (by rw [v_habit]) ?_
  refine lV (yMove rfl) rfl rfl ?_
  refine lV (yExtract rfl rfl) rfl rfl ?_
  refine lV (yExtract rfl rfl) rfl rfl ?_
  refine lE rfl ?_
  refine eAlloc Z24 fun n1 => ?_
  refine lE rfl ?_
  refine eStoreL 0 rfl rfl rfl rfl K24 rfl (rfl) ?_
  refine lV (yAssign rfl) rfl rfl ?_
  refine lNil ?_
  refine kThen ?_
  refine kSeq ?_
  refine forgetP [(n1, _)] (.c 0 rfl .n) ?_
  refine kRegion rfl ?_
  refine lE rfl ?_
  refine eCallX rfl .n C70 (fun w hw => watch03_any w) fun ⟨e, l⟩ _ => ?_
  refine lV (yField rfl (fun w => FD29_0 w)) rfl rfl ?_
  refine lV (yCall rfl (.c rfl (.c rfl .n)) C31 (fun w hw => travelX_any (locW e l).l sam.m 1200 w (InW.m (sam_in (h := (-20, 20)) (hw.blkAt 0 rfl) (hw.blkAt 1 rfl))))) rfl rfl ?_
  refine same (t := 13) (u := outC ((1197, 1208), 0)) rfl (by rw [v_travel03]) ?_
  refine lV (yMove rfl) rfl rfl ?_
  refine lV (yExtract rfl rfl) rfl rfl ?_
  refine lV (yExtract rfl rfl) rfl rfl ?_
  refine lE rfl ?_
  refine eAlloc Z24 fun n3 => ?_
  refine lE rfl ?_
  refine eStoreL 0 rfl rfl rfl rfl K24 rfl (rfl) ?_
  refine lV (yAssign rfl) rfl rfl ?_
  refine lNil ?_
  refine kThen ?_
  refine kSeq ?_
  refine kRegion rfl ?_
  refine lV (yLoadA (vs := [_, _]) rfl A24 (cOwn 3 rfl rfl)) rfl rfl ?_
  refine lV (yBuild (.c rfl (.c rfl .n)) (fun w => B24_0_1 w)) rfl rfl ?_
  refine lV (yEqAgg rfl rfl G24 (fun w => Q24 w)) rfl rfl ?_
  refine known (t := 18) rfl (⟨rfl, rfl⟩) ?_
  refine lV (yMove rfl) rfl rfl ?_
  refine lGY rfl rfl rfl (oV (yMove rfl) rfl ?_)
  refine lGY rfl rfl rfl (oV (yEql rfl rfl) rfl ?_)
  refine known (t := 21) rfl (rfl) ?_
  refine lV (yPickT rfl rfl) rfl rfl ?_
  refine lV (yMove rfl) rfl rfl ?_
  refine lGY rfl rfl rfl (oV (yLoadA (vs := [_, _]) rfl A24 (cOwn 0 rfl rfl)) rfl ?_)
  refine lGY rfl rfl rfl (oV (yBuild (.c rfl (.c rfl .n)) (fun w => B24_0_1 w)) rfl ?_)
  refine lGY rfl rfl rfl (oV (yEqAgg rfl rfl G24 (fun w => Q24 w)) rfl ?_)
  refine known (t := 26) rfl (⟨rfl, rfl⟩) ?_
  refine lV (yPickT rfl rfl) rfl rfl ?_
  refine lV (yMove rfl) rfl rfl ?_
  refine lGY rfl rfl rfl (oV (yMove rfl) rfl ?_)
  refine lGY rfl rfl rfl (oV (yEql rfl rfl) rfl ?_)
  refine known (t := 30) rfl (rfl) ?_
  refine lV (yPickT rfl rfl) rfl rfl ?_
  refine lV (yAssign rfl) rfl rfl ?_
  refine lNil ?_
  refine kThen ?_
  refine kRet ?_
  refine fRet rfl (.t rfl .n) (endRet ?_)
  rfl
theorem rowsS_len' (l : List (Int × Int × Bool)) : ∀ x ∈ l.map rowS, x.length = 3 := by
  intro x hx; obtain ⟨y, _, rfl⟩ := List.mem_map.1 hx; rfl
theorem rowsS_one' (l : List (Int × Int × Bool)) : ∀ x ∈ l.map rowS, ∀ u ∈ x, u.oneCell' = true := by
  intro x hx u hu; obtain ⟨y, _, rfl⟩ := List.mem_map.1 hx
  simp only [rowS, List.mem_cons, List.not_mem_nil, or_false] at hu
  rcases hu with rfl | rfl | rfl <;> rfl
def aloneL (X : Wat) (k : Nat) : List (Int × Int × Bool) := (List.range k).map fun i => aloneS (lkAt X i)
theorem aloneL_succ (X : Wat) (k : Nat) : aloneL X (k + 1) = aloneL X k ++ [aloneS (lkAt X k)] := by unfold aloneL; rw [List.range_succ, List.map_append]; rfl
theorem aloneL_len (X : Wat) (k : Nat) : (aloneL X k).length = k := by simp [aloneL]
theorem aloneL_all (X : Wat) : aloneL X X.looks.length = (aloneM X).sets := by
  unfold aloneL aloneM
  refine List.ext_getElem (by simp) fun i h1 h2 => ?_
  have hi : i < X.looks.length := by simpa using h2
  simp only [List.getElem_map, List.getElem_range]
  unfold lkAt
  rw [← List.getElem_eq_getD (h := hi)]
abbrev aloC (y : WLoc) (X : Wat) (g : Own) (n : Nat) : List Value := [.slice y.ea X.errs.length y.ec, i64 X.eyeS.1, i64 X.eyeS.2, i64 X.images, i64 0, i64 131072, osV g n]
abbrev aloY (y : WLoc) (g : Own) : Scr.Loc := ⟨y.ea, y.ec, osA g, osC g⟩
theorem alone_in {w0 w : World} {y : WLoc} {X : Wat} {g : Own} {L : Heap} (hm : InW w0 y X) (hg : OS 3 g ((aloneM X).sets.map rowS)) (hw : Eff w0 [] L w) (hs : SubP (osL 67 g) L) : Scr.InM w (aloY y g) (aloneM X) :=
  ⟨(hm.eff hw).e, OS.rowsE (f := rowS) (0, 0, false) hg hw hs⟩
set_option maxHeartbeats 4000000 in
set_option maxRecDepth 100000 in
theorem alone_any (y : WLoc) (X : Wat) (w : World) (hm : InW w y X) : Calls Try.prog 12 [.agg (watC y X).toArray].toArray w (Ret w (.bool true)) := by
  refine fEnter Try.func12 rfl Try.ntmps12 rfl ?_
  refine kSeq ?_
  refine kRegion rfl ?_
  refine lE rfl ?_
  refine eBoxA rfl fun n1 => ?_
  refine lV (yAssign rfl) rfl rfl ?_
  refine lNil ?_
  refine kThen ?_
  refine kSeq ?_
  refine kSeq ?_
  refine kRegion rfl ?_
  refine lV (yFieldAddr rfl F29_4) rfl rfl ?_
  refine lV (yLoad1 rfl O27 (cOwn 0 rfl rfl)) rfl rfl ?_
  refine lV (yLen rfl S27) rfl rfl ?_
  refine lV (yGtr rfl rfl) rfl rfl ?_
  refine lV (yMove rfl) rfl rfl ?_
  refine split (t := 26) rfl (fun h26 => ?_) (fun h26 => ?_)
  · refine lGN rfl rfl rfl rfl rfl ?_
    refine lGN rfl rfl rfl rfl rfl ?_
    refine lGN rfl rfl rfl rfl rfl ?_
    refine lGN rfl rfl rfl rfl rfl ?_
    refine lGN rfl rfl rfl rfl rfl ?_
    refine lV (yPickT rfl rfl) rfl rfl ?_
    refine lV (yMove rfl) rfl rfl ?_
    refine lGN rfl rfl rfl rfl rfl ?_
    refine lGN rfl rfl rfl rfl rfl ?_
    refine lGN rfl rfl rfl rfl rfl ?_
    refine lV (yPickT rfl rfl) rfl rfl ?_
    refine lNil ?_
    refine kThen ?_
    refine kIfT rfl ?_
    refine kSeq ?_
    refine kRegion rfl ?_
    refine lV (yCall rfl .n C41 (fun w hw => awake03_any w)) rfl rfl ?_
    refine lV (yAssign rfl) rfl rfl ?_
    refine lNil ?_
    refine kThen ?_
    refine kRet ?_
    refine kThenR ?_
    refine fRet rfl (.t rfl .n) (endRet ?_)
    first | rfl | (simp [packV, *]; done)
  · refine lGY rfl rfl rfl (oV (yFieldAddr rfl F29_0) rfl ?_)
    refine lGY rfl rfl rfl (oV (yFieldAddr rfl F26_0) rfl ?_)
    refine lGY rfl rfl rfl (oV (yLoad1 rfl O22 (cOwn 0 rfl rfl)) rfl ?_)
    refine lGY rfl rfl rfl (oV (yLen rfl S22) rfl ?_)
    refine lGY rfl rfl rfl (oV (yGtr rfl rfl) rfl ?_)
    refine lV (yPickF rfl rfl) rfl rfl ?_
    refine lV (yMove rfl) rfl rfl ?_
    refine split (t := 33) rfl (fun h33 => ?_) (fun h33 => ?_)
    · refine lGN rfl rfl rfl rfl rfl ?_
      refine lGN rfl rfl rfl rfl rfl ?_
      refine lGN rfl rfl rfl rfl rfl ?_
      refine lV (yPickT rfl rfl) rfl rfl ?_
      refine lNil ?_
      refine kThen ?_
      refine kIfT rfl ?_
      refine kSeq ?_
      refine kRegion rfl ?_
      refine lV (yCall rfl .n C41 (fun w hw => awake03_any w)) rfl rfl ?_
      refine lV (yAssign rfl) rfl rfl ?_
      refine lNil ?_
      refine kThen ?_
      refine kRet ?_
      refine kThenR ?_
      refine fRet rfl (.t rfl .n) (endRet ?_)
      first | rfl | (simp [packV, *]; done)
    · refine lGY rfl rfl rfl (oV (yLoadA (vs := [_, _, _, _, _, _, _, _]) rfl A29 (cOwn 0 rfl rfl)) rfl ?_)
      refine lGY rfl rfl rfl (oV (yCall rfl (.c rfl .n) C34 (fun w hw => watch_any y X w (hm.eff hw) (by omega) (by omega))) rfl ?_)
      refine lGY rfl rfl rfl (oV (yNot rfl) rfl ?_)
      refine lV (yPickF rfl rfl) rfl rfl ?_
      refine lNil ?_
      refine kThen ?_
      refine splitB (t := 37) rfl (fun h37 => ?_) (fun h37 => ?_)
      · refine kIfT rfl ?_
        refine kSeq ?_
        refine kRegion rfl ?_
        refine lV (yCall rfl .n C41 (fun w hw => awake03_any w)) rfl rfl ?_
        refine lV (yAssign rfl) rfl rfl ?_
        refine lNil ?_
        refine kThen ?_
        refine kRet ?_
        refine kThenR ?_
        refine fRet rfl (.t rfl .n) (endRet ?_)
        first | rfl | (simp [packV, *]; done)
      · refine kIfF rfl ?_
        refine kSkip ?_
        refine kThen ?_
        refine kSeq ?_
        have hM := notF h37
        have hN := hM.n
        have hI := hM.i
        have hE := hM.e
        have hY := noneW_ok hM
        have hA := alone_ok hM
        refine kRegion rfl ?_
        refine lV (yLoadA (vs := [_, _, _, _, _, _, _, _]) rfl A29 (cOwn 0 rfl rfl)) rfl rfl ?_
        refine lE rfl ?_
        refine eAlloc Z29 fun n3 => ?_
        refine lE rfl ?_
        refine eStoreL 0 rfl rfl rfl rfl K29 rfl (rfl) ?_
        refine lNil ?_
        refine kThen ?_
        refine kSeq ?_
        refine kRegion rfl ?_
        refine lV (yBuild .n (fun w => B24_ w)) rfl rfl ?_
        refine lV (yFieldAddr rfl F29_3) rfl rfl ?_
        refine lE rfl ?_
        refine eStoreL 0 rfl rfl rfl rfl K24 rfl (rfl) ?_
        refine lNil ?_
        refine kThen ?_
        refine kSeq ?_
        refine kRegion rfl ?_
        refine lV (yFieldAddr rfl F29_0) rfl rfl ?_
        refine lV (yLoadA (vs := [_, _, _]) rfl A26 (cOwn 1 rfl rfl)) rfl rfl ?_
        refine lV (yFieldAddr rfl F29_1) rfl rfl ?_
        refine lV (yLoad1 rfl O3 (cOwn 1 rfl rfl)) rfl rfl ?_
        refine lV (yBuild (.c rfl .n) (fun w => B24_1 w)) rfl rfl ?_
        refine lV (yBuild (.c rfl (.c rfl (.c rfl .n))) (fun w => B65_0_1_2 w)) rfl rfl ?_
        refine lE rfl ?_
        refine eAlloc Z65 fun n4 => ?_
        refine lE rfl ?_
        refine eStoreL 0 rfl rfl rfl rfl K65 rfl (rfl) ?_
        refine lNil ?_
        refine kThen ?_
        refine kSeq ?_
        refine kSeq ?_
        refine kRegion rfl ?_
        refine lV (yFieldAddr rfl F29_4) rfl rfl ?_
        refine lV (yLoad1 rfl O27 (cOwn 2 rfl rfl)) rfl rfl ?_
        refine lV (yLen rfl S27) rfl rfl ?_
        refine lV (yMove rfl) rfl rfl ?_
        refine lNil ?_
        refine kThen ?_
        refine kBlock ?_
        refine kLoopX (ι := Nat × Own) (fun x => x.1 ≤ X.looks.length ∧ OS 3 x.2 ((aloneL X x.1).map rowS)) (fun x => [(51, i64 (x.1 : Nat))]) [(0, _), (1, _), (2, _), (22, _), (23, _), (24, _), (25, _), (26, _), (27, _), (28, _), (29, _), (30, _), (31, _), (32, _), (33, _), (34, _), (35, _), (36, _), (37, _), (39, _), (3, _), (40, _), (41, _), (42, _), (43, _), (44, _), (45, _), (46, _), (47, _), (4, _), (48, _), (49, _), (50, _)] (fun x => []) (fun x => ([(n4, blk (aloC y X x.2 ((aloneL X x.1).map rowS).length) 65)] ++ osL 67 x.2)) [(n1, _), (n3, _)] (fun x => X.looks.length - x.1) (0, .e none) (⟨Nat.zero_le _, OS.empty⟩) rfl (.c rfl .n) (.c rfl (.c rfl (.c rfl (.c rfl (.c rfl (.c rfl (.c rfl (.c rfl (.c rfl (.c rfl (.c rfl (.c rfl (.c rfl (.c rfl (.c rfl (.c rfl (.c rfl (.c rfl (.c rfl (.c rfl (.c rfl (.c rfl (.c rfl (.c rfl (.c rfl (.c rfl (.c rfl (.c rfl (.c rfl (.c rfl (.c rfl (.c rfl (.c rfl .n))))))))))))))))))))))))))))))))) (.c 2 rfl (.c 1 rfl (.c 0 rfl .n))) ?_
        rintro ⟨i, g⟩ ⟨hi, hg⟩
        dsimp only at hi hg ⊢
        have hlen := aloneL_len X i
        refine kSeq ?_
        refine kRegion rfl ?_
        refine lV (yLss rfl rfl) rfl rfl ?_
        refine lNil ?_
        refine kThen ?_
        refine kSeq ?_
        refine split (t := 52) rfl (fun h52 => ?_) (fun h52 => ?_)
        · refine kIfT rfl ?_
          refine kSkip ?_
          refine kThen ?_
          refine kSeq ?_
          refine kBlock ?_
          refine kSeq ?_
          refine kRegion rfl ?_
          refine lV (yIndexS  rfl rfl S27 (hm.l.r) ((by omega))) rfl rfl ?_
          refine lV (yLoadA (vs := [_, _, _]) rfl A47 (cSl0 (hm.l.r) ((by omega)) rfl)) rfl rfl ?_
          refine lE rfl ?_
          refine eAlloc Z47 fun n6 => ?_
          refine lE rfl ?_
          refine eStoreL 0 rfl rfl rfl rfl K47 rfl (rfl) ?_
          refine lNil ?_
          refine kThen ?_
          refine kRegion rfl ?_
          refine lV (yFieldAddr rfl F65_3) rfl rfl ?_
          refine lV (yLoad1 rfl O63 (cOwn 3 rfl rfl)) rfl rfl ?_
          refine lV (yFieldAddr rfl F47_1) rfl rfl ?_
          refine lV (yLoad1 rfl O3 (cOwn 0 rfl rfl)) rfl rfl ?_
          refine lV (yFieldAddr rfl F47_2) rfl rfl ?_
          refine lV (yLoad1 rfl O3 (cOwn 0 rfl rfl)) rfl rfl ?_
          refine lV (yBuild (.c rfl (.c rfl .n)) (fun w => B67_0_1 w)) rfl rfl ?_
          refine lE rfl ?_
          refine eBuildSlice (.c rfl .n) (fun w => BS63_1_0 w) fun n62 => ?_
          refine lE rfl ?_
          refine eAppend (gs := g) [(n62, _), (n6, _), (n1, _), (n3, _), (n4, _)] [rowS (aloneS (lkAt X i))] AP63 rfl rfl .r hg rfl (rowsS_len' [_]) (SlN.own 0 rfl rfl) (rowsS_one' [_]) (by simp; omega) (by simp; omega) fun h hh => ?_
          refine same (t := 63) (u := osV h (List.map rowS (aloneL X (i + 1))).length) rfl (by rw [aloneL_succ, List.map_append]; rfl) ?_
          refine lV (yFieldAddr rfl F65_3) rfl rfl ?_
          refine lE rfl ?_
          refine eStoreL 4 rfl rfl rfl rfl K63 rfl (rfl) ?_
          refine lNil ?_
          refine kInN ?_
          refine kThen ?_
          refine kRegion rfl ?_
          refine lV (yAdd rfl rfl (by omega)) rfl rfl ?_
          refine lV (yMove rfl) rfl rfl ?_
          refine lNil ?_
          exact kRoundX (i + 1, h) (⟨by dsimp only; omega, by dsimp only; rw [aloneL_succ, List.map_append]; exact hh⟩) (by dsimp only; omega) rfl (.c rfl .n) (.c rfl (.c rfl (.c rfl (.c rfl (.c rfl (.c rfl (.c rfl (.c rfl (.c rfl (.c rfl (.c rfl (.c rfl (.c rfl (.c rfl (.c rfl (.c rfl (.c rfl (.c rfl (.c rfl (.c rfl (.c rfl (.c rfl (.c rfl (.c rfl (.c rfl (.c rfl (.c rfl (.c rfl (.c rfl (.c rfl (.c rfl (.c rfl (.c rfl .n))))))))))))))))))))))))))))))))) (.c 2 rfl (.c 2 rfl (.c 2 rfl (.d 0 (.d 0 .r)))))
        · refine kIfF rfl ?_
          refine kExit ?_
          refine kThenX ?_
          refine kThenX ?_
          refine kInX ?_
          refine kThen ?_
          refine kSeq ?_
          have hil : i = X.looks.length := by omega
          rw [hil, aloneL_all] at hg
          have e3 : ((aloneL X i).map rowS).length = (aloneM X).sets.length := by rw [hil, aloneL_all, List.length_map]
          rw [e3]
          refine kRegion rfl ?_
          refine lV (yLoadA (vs := [_, _, _, _, _, _, _, _]) rfl A29 (cOwn 1 rfl rfl)) rfl rfl ?_
          refine lV (yCall rfl (.c rfl .n) C23 (fun w hw => clash_any y (noneW X) w ⟨(hm.eff hw).e, (hm.eff hw).l⟩ (by show X.looks.length ≤ 1000000; omega))) rfl rfl ?_
          refine same (t := 68) (u := outI (((clashN (noneW X) : Nat) : Int), 0)) rfl (by rw [clashE_N hY]) ?_
          refine lV (yMove rfl) rfl rfl ?_
          refine lV (yExtract rfl rfl) rfl rfl ?_
          refine lV (yExtract rfl rfl) rfl rfl ?_
          refine lV (yAssign rfl) rfl rfl ?_
          refine lV (yAssign rfl) rfl rfl ?_
          refine lNil ?_
          refine kThen ?_
          refine kSeq ?_
          refine kRegion rfl ?_
          refine lV (yLoadA (vs := [_, _, _, _, _, _, _]) rfl A65 (cOwn 2 rfl rfl)) rfl rfl ?_
          refine lV (yCall rfl (.c rfl .n) C42 (fun w hw => Scr.clash_any (aloY y g) (aloneM X) w (alone_in hm hg hw (.d 0 (.d 0 (.d 0 .r)))))) rfl rfl ?_
          refine same (t := 73) (u := outI (((clashN (noneW X) : Nat) : Int), 0)) rfl (by rw [Scr.clashE_S hA, alone_clash hM]) ?_
          refine lV (yMove rfl) rfl rfl ?_
          refine lV (yExtract rfl rfl) rfl rfl ?_
          refine lV (yExtract rfl rfl) rfl rfl ?_
          refine lV (yAssign rfl) rfl rfl ?_
          refine lV (yAssign rfl) rfl rfl ?_
          refine lNil ?_
          refine kThen ?_
          refine kSeq ?_
          refine kRegion rfl ?_
          refine lV (yLoadA (vs := [_, _, _, _, _, _, _, _]) rfl A29 (cOwn 1 rfl rfl)) rfl rfl ?_
          refine lV (yCall rfl (.c rfl .n) C25 (fun w hw => drop_any y (noneW X) w ⟨(hm.eff hw).e, (hm.eff hw).l⟩ (by show X.looks.length ≤ 1000000; omega))) rfl rfl ?_
          refine same (t := 78) (u := outI (((dropN (noneW X) : Nat) : Int), 0)) rfl (by rw [dropE_N hY]) ?_
          refine lV (yMove rfl) rfl rfl ?_
          refine lV (yExtract rfl rfl) rfl rfl ?_
          refine lV (yExtract rfl rfl) rfl rfl ?_
          refine lV (yAssign rfl) rfl rfl ?_
          refine lV (yAssign rfl) rfl rfl ?_
          refine lNil ?_
          refine kThen ?_
          refine kSeq ?_
          refine kRegion rfl ?_
          refine lV (yLoadA (vs := [_, _, _, _, _, _, _]) rfl A65 (cOwn 2 rfl rfl)) rfl rfl ?_
          refine lV (yCall rfl (.c rfl .n) C43 (fun w hw => Scr.drop_any (aloY y g) (aloneM X) w (alone_in hm hg hw (.d 0 (.d 0 (.d 0 .r)))))) rfl rfl ?_
          refine same (t := 83) (u := outI (((dropN (noneW X) : Nat) : Int), 0)) rfl (by rw [Scr.dropE_S hA, alone_drop hM]) ?_
          refine lV (yMove rfl) rfl rfl ?_
          refine lV (yExtract rfl rfl) rfl rfl ?_
          refine lV (yExtract rfl rfl) rfl rfl ?_
          refine lV (yAssign rfl) rfl rfl ?_
          refine lV (yAssign rfl) rfl rfl ?_
          refine lNil ?_
          refine kThen ?_
          refine kSeq ?_
          refine kSeq ?_
          refine kRegion rfl ?_
          refine lV (yMove rfl) rfl rfl ?_
          refine lV (yMove rfl) rfl rfl ?_
          refine lV (yNeq rfl rfl) rfl rfl ?_
          refine knownN (t := 88) rfl (fun h => h rfl) ?_
          refine lV (yMove rfl) rfl rfl ?_
          refine lGY rfl rfl rfl (oV (yMove rfl) rfl ?_)
          refine lGY rfl rfl rfl (oV (yNeq rfl rfl) rfl ?_)
          refine knownN (t := 91) rfl (fun h => h rfl) ?_
          refine lV (yPickF rfl rfl) rfl rfl ?_
          refine lV (yMove rfl) rfl rfl ?_
          refine lGY rfl rfl rfl (oV (yMove rfl) rfl ?_)
          refine lGY rfl rfl rfl (oV (yNeq rfl rfl) rfl ?_)
          refine knownN (t := 95) rfl (fun h => h rfl) ?_
          refine lV (yPickF rfl rfl) rfl rfl ?_
          refine lV (yMove rfl) rfl rfl ?_
          refine lGY rfl rfl rfl (oV (yMove rfl) rfl ?_)
          refine lGY rfl rfl rfl (oV (yMove rfl) rfl ?_)
          refine lGY rfl rfl rfl (oV (yNeq rfl rfl) rfl ?_)
          refine knownN (t := 100) rfl (fun h => h rfl) ?_
          refine lV (yPickF rfl rfl) rfl rfl ?_
          refine lV (yMove rfl) rfl rfl ?_
          refine lGY rfl rfl rfl (oV (yMove rfl) rfl ?_)
          refine lGY rfl rfl rfl (oV (yNeq rfl rfl) rfl ?_)
          refine knownN (t := 104) rfl (fun h => h rfl) ?_
          refine lV (yPickF rfl rfl) rfl rfl ?_
          refine lV (yMove rfl) rfl rfl ?_
          refine lGY rfl rfl rfl (oV (yMove rfl) rfl ?_)
          refine lGY rfl rfl rfl (oV (yNeq rfl rfl) rfl ?_)
          refine knownN (t := 108) rfl (fun h => h rfl) ?_
          refine lV (yPickF rfl rfl) rfl rfl ?_
          refine lNil ?_
          refine kThen ?_
          refine kIfF rfl ?_
          refine kSkip ?_
          refine kThen ?_
          refine kSeq ?_
          refine kSeq ?_
          refine kRegion rfl ?_
          refine lV (yFieldAddr rfl F29_1) rfl rfl ?_
          refine lV (yLoad1 rfl O3 (cOwn 0 rfl rfl)) rfl rfl ?_
          refine same (t := 111) (u := i64 ((X.images.toNat : Nat) : Int)) rfl (congrArg i64 (by omega)) ?_
          refine lV (yMove rfl) rfl rfl ?_
          refine lNil ?_
          refine kThen ?_
          refine kBlock ?_
          refine kLoopX (ι := Nat) (fun a => a ≤ X.images.toNat) (fun a => [(112, i64 (a : Nat))]) [(0, _), (1, _), (22, _), (23, _), (24, _), (25, _), (26, _), (27, _), (28, _), (29, _), (30, _), (31, _), (32, _), (33, _), (34, _), (35, _), (36, _), (37, _), (39, _), (3, _), (40, _), (41, _), (42, _), (43, _), (44, _), (45, _), (46, _), (47, _), (4, _), (48, _), (49, _), (50, _), (51, _), (52, _), (67, _), (68, _), (66, _), (69, _), (70, _), (7, _), (8, _), (72, _), (73, _), (71, _), (74, _), (75, _), (9, _), (10, _), (77, _), (78, _), (76, _), (79, _), (80, _), (11, _), (12, _), (82, _), (83, _), (81, _), (84, _), (85, _), (13, _), (14, _), (86, _), (87, _), (88, _), (89, _), (90, _), (91, _), (92, _), (93, _), (94, _), (95, _), (96, _), (97, _), (98, _), (99, _), (100, _), (101, _), (102, _), (103, _), (104, _), (105, _), (106, _), (107, _), (108, _), (109, _), (110, _), (111, _)] (fun a => []) (fun a => osL 67 g) [(n1, _), (n3, _), (n4, _)] (fun a => X.images.toNat - a) 0 (Nat.zero_le _) rfl (.c rfl .n) (.c rfl (.c rfl (.c rfl (.c rfl (.c rfl (.c rfl (.c rfl (.c rfl (.c rfl (.c rfl (.c rfl (.c rfl (.c rfl (.c rfl (.c rfl (.c rfl (.c rfl (.c rfl (.c rfl (.c rfl (.c rfl (.c rfl (.c rfl (.c rfl (.c rfl (.c rfl (.c rfl (.c rfl (.c rfl (.c rfl (.c rfl (.c rfl (.c rfl (.c rfl (.c rfl (.c rfl (.c rfl (.c rfl (.c rfl (.c rfl (.c rfl (.c rfl (.c rfl (.c rfl (.c rfl (.c rfl (.c rfl (.c rfl (.c rfl (.c rfl (.c rfl (.c rfl (.c rfl (.c rfl (.c rfl (.c rfl (.c rfl (.c rfl (.c rfl (.c rfl (.c rfl (.c rfl (.c rfl (.c rfl (.c rfl (.c rfl (.c rfl (.c rfl (.c rfl (.c rfl (.c rfl (.c rfl (.c rfl (.c rfl (.c rfl (.c rfl (.c rfl (.c rfl (.c rfl (.c rfl (.c rfl (.c rfl (.c rfl (.c rfl (.c rfl (.c rfl (.c rfl (.c rfl .n)))))))))))))))))))))))))))))))))))))))))))))))))))))))))))))))))))))))))))))))))))))))) (.c 0 rfl (.c 0 rfl (.c 0 rfl .r))) ?_
          rintro a hal
          refine kSeq ?_
          refine kRegion rfl ?_
          refine lV (yLss rfl rfl) rfl rfl ?_
          refine lNil ?_
          refine kThen ?_
          refine kSeq ?_
          refine split (t := 113) rfl (fun h113 => ?_) (fun h113 => ?_)
          · refine kIfT rfl ?_
            refine kSkip ?_
            refine kThen ?_
            refine kSeq ?_
            refine kBlock ?_
            refine kSeq ?_
            by_cases ho : okW (noneW X)
            · have hr : 0 ≤ ((a : Nat) : Int) ∧ ((a : Nat) : Int) ≤ X.images - 1 := by omega
              have hr2 : 0 ≤ ((a : Nat) : Int) ∧ ((a : Nat) : Int) ≤ (noneW X).images - 1 := hr
              have hpl := alone_place hM (a := a) (by omega)
              refine kRegion rfl ?_
              refine lV (yMove rfl) rfl rfl ?_
              refine lV (yAssign rfl) rfl rfl ?_
              refine lNil ?_
              refine kThen ?_
              refine kSeq ?_
              by_cases hs : seenI X a
              · refine kRegion rfl ?_
                refine lV (yLoadA (vs := [_, _, _, _, _, _, _, _]) rfl A29 (cOwn 1 rfl rfl)) rfl rfl ?_
                refine lV (yMove rfl) rfl rfl ?_
                refine lV (yCall rfl (.c rfl (.c rfl .n)) C19 (fun w hw => place_any y (noneW X) (a : Nat) w ⟨(hm.eff hw).e, (hm.eff hw).l⟩ (by show X.looks.length ≤ 1000000; omega))) rfl rfl ?_
                refine same (t := 118) (u := outC (plaP (noneW X) a, 0)) rfl (by rw [placeE_ok hY ho hr2 hs]; rfl) ?_
                refine lV (yMove rfl) rfl rfl ?_
                refine lV (yExtract rfl rfl) rfl rfl ?_
                refine lV (yExtract rfl rfl) rfl rfl ?_
                refine lE rfl ?_
                refine eAlloc Z24 fun n16 => ?_
                refine lE rfl ?_
                refine eStoreL 0 rfl rfl rfl rfl K24 rfl (rfl) ?_
                refine lV (yAssign rfl) rfl rfl ?_
                refine lNil ?_
                refine kThen ?_
                refine kSeq ?_
                refine kRegion rfl ?_
                refine lV (yLoadA (vs := [_, _, _, _, _, _, _]) rfl A65 (cOwn 3 rfl rfl)) rfl rfl ?_
                refine lV (yMove rfl) rfl rfl ?_
                refine lV (yCall rfl (.c rfl (.c rfl .n)) C44 (fun w hw => Scr.place_any (aloY y g) (aloneM X) (a : Nat) w (alone_in hm hg hw (.d 0 (.d 0 (.d 0 (.d 0 .r))))))) rfl rfl ?_
                refine same (t := 124) (u := outC (plaP (noneW X) a, 0)) rfl (by rw [hpl, placeE_ok hY ho hr2 hs]; rfl) ?_
                refine lV (yMove rfl) rfl rfl ?_
                refine lV (yExtract rfl rfl) rfl rfl ?_
                refine lV (yExtract rfl rfl) rfl rfl ?_
                refine lE rfl ?_
                refine eAlloc Z24 fun n18 => ?_
                refine lE rfl ?_
                refine eStoreL 0 rfl rfl rfl rfl K24 rfl (rfl) ?_
                refine lV (yAssign rfl) rfl rfl ?_
                refine lNil ?_
                refine kThen ?_
                refine kSeq ?_
                refine kSeq ?_
                refine kRegion rfl ?_
                refine lV (yLoadA (vs := [_, _]) rfl A24 (cOwn 1 rfl rfl)) rfl rfl ?_
                refine lV (yLoadA (vs := [_, _]) rfl A24 (cOwn 0 rfl rfl)) rfl rfl ?_
                refine lV (yNeAgg rfl rfl G24 (fun w => Q24 w)) rfl rfl ?_
                refine knownB (t := 129) (c := false) rfl (by simp) ?_
                refine lV (yMove rfl) rfl rfl ?_
                refine lGY rfl rfl rfl (oV (yMove rfl) rfl ?_)
                refine lGY rfl rfl rfl (oV (yMove rfl) rfl ?_)
                refine lGY rfl rfl rfl (oV (yNeq rfl rfl) rfl ?_)
                refine knownN (t := 133) rfl (fun h => h rfl) ?_
                refine lV (yPickF rfl rfl) rfl rfl ?_
                refine lNil ?_
                refine kThen ?_
                refine kIfF rfl ?_
                refine kSkip ?_
                refine kThen ?_
                refine kSeq ?_
                refine kRegion rfl ?_
                refine lV (yLoadA (vs := [_, _, _, _, _, _, _, _]) rfl A29 (cOwn 2 rfl rfl)) rfl rfl ?_
                refine lV (yMove rfl) rfl rfl ?_
                refine lV (yCall rfl (.c rfl (.c rfl .n)) C19 (fun w hw => place_any y X (a : Nat) w (hm.eff hw) (by omega))) rfl rfl ?_
                refine same (t := 138) (u := outC (plaP X a, 0)) rfl (by rw [placeE_ok hM (none_ok hM ho) hr hs]; rfl) ?_
                refine lV (yMove rfl) rfl rfl ?_
                refine lV (yExtract rfl rfl) rfl rfl ?_
                refine lV (yExtract rfl rfl) rfl rfl ?_
                refine lE rfl ?_
                refine eAlloc Z24 fun n20 => ?_
                refine lE rfl ?_
                refine eStoreL 0 rfl rfl rfl rfl K24 rfl (rfl) ?_
                refine lV (yAssign rfl) rfl rfl ?_
                refine lNil ?_
                refine kThen ?_
                refine kSeq ?_
                have hin := none_pla hM ho hs
                refine kRegion rfl ?_
                refine lV (yMove rfl) rfl rfl ?_
                refine lV (yEql rfl rfl) rfl rfl ?_
                refine known (t := 142) rfl (rfl) ?_
                refine lV (yMove rfl) rfl rfl ?_
                refine lGY rfl rfl rfl (oV (yMove rfl) rfl ?_)
                refine lGY rfl rfl rfl (oV (yNeq rfl rfl) rfl ?_)
                refine knownN (t := 145) rfl (fun h => h rfl) ?_
                refine lGY rfl rfl rfl (oV (yMove rfl) rfl ?_)
                refine lGY rfl rfl rfl (oV (yFieldAddr rfl F24_0) rfl ?_)
                refine lGY rfl rfl rfl (oV (yLoad1 rfl O3 (cOwn 0 rfl rfl)) rfl ?_)
                refine lGY rfl rfl rfl (oV (yFieldAddr rfl F24_0) rfl ?_)
                refine lGY rfl rfl rfl (oV (yLoad1 rfl O3 (cOwn 2 rfl rfl)) rfl ?_)
                refine lGY rfl rfl rfl (oV (yGtr rfl rfl) rfl ?_)
                refine knownN (t := 151) rfl (by dsimp only; omega) ?_
                refine lGY rfl rfl rfl (oV (yPickF rfl rfl) rfl ?_)
                refine lGY rfl rfl rfl (oV (yMove rfl) rfl ?_)
                refine lGY rfl rfl rfl (oV (yFieldAddr rfl F24_1) rfl ?_)
                refine lGY rfl rfl rfl (oV (yLoad1 rfl O3 (cOwn 0 rfl rfl)) rfl ?_)
                refine lGY rfl rfl rfl (oV (yFieldAddr rfl F24_1) rfl ?_)
                refine lGY rfl rfl rfl (oV (yLoad1 rfl O3 (cOwn 2 rfl rfl)) rfl ?_)
                refine lGY rfl rfl rfl (oV (yLss rfl rfl) rfl ?_)
                refine knownN (t := 158) rfl (by dsimp only; omega) ?_
                refine lGY rfl rfl rfl (oV (yPickF rfl rfl) rfl ?_)
                refine lV (yPickT rfl rfl) rfl rfl ?_
                refine lNil ?_
                refine kThen ?_
                refine kIfF rfl ?_
                refine kSkip ?_
                refine kInN ?_
                refine kThen ?_
                refine kRegion rfl ?_
                refine lV (yAdd rfl rfl (by omega)) rfl rfl ?_
                refine lV (yMove rfl) rfl rfl ?_
                refine lNil ?_
                exact kRoundX (a + 1) (by omega) (by omega) rfl (.c rfl .n) (.c rfl (.c rfl (.c rfl (.c rfl (.c rfl (.c rfl (.c rfl (.c rfl (.c rfl (.c rfl (.c rfl (.c rfl (.c rfl (.c rfl (.c rfl (.c rfl (.c rfl (.c rfl (.c rfl (.c rfl (.c rfl (.c rfl (.c rfl (.c rfl (.c rfl (.c rfl (.c rfl (.c rfl (.c rfl (.c rfl (.c rfl (.c rfl (.c rfl (.c rfl (.c rfl (.c rfl (.c rfl (.c rfl (.c rfl (.c rfl (.c rfl (.c rfl (.c rfl (.c rfl (.c rfl (.c rfl (.c rfl (.c rfl (.c rfl (.c rfl (.c rfl (.c rfl (.c rfl (.c rfl (.c rfl (.c rfl (.c rfl (.c rfl (.c rfl (.c rfl (.c rfl (.c rfl (.c rfl (.c rfl (.c rfl (.c rfl (.c rfl (.c rfl (.c rfl (.c rfl (.c rfl (.c rfl (.c rfl (.c rfl (.c rfl (.c rfl (.c rfl (.c rfl (.c rfl (.c rfl (.c rfl (.c rfl (.c rfl (.c rfl (.c rfl (.c rfl (.c rfl (.c rfl .n)))))))))))))))))))))))))))))))))))))))))))))))))))))))))))))))))))))))))))))))))))))))) (.c 3 rfl (.c 3 rfl (.c 3 rfl (.d 0 (.d 0 (.d 0 .r))))))
              · refine kRegion rfl ?_
                refine lV (yLoadA (vs := [_, _, _, _, _, _, _, _]) rfl A29 (cOwn 1 rfl rfl)) rfl rfl ?_
                refine lV (yMove rfl) rfl rfl ?_
                refine lV (yCall rfl (.c rfl (.c rfl .n)) C19 (fun w hw => place_any y (noneW X) (a : Nat) w ⟨(hm.eff hw).e, (hm.eff hw).l⟩ (by show X.looks.length ≤ 1000000; omega))) rfl rfl ?_
                refine same (t := 118) (u := outC ((0, 0), 12)) rfl (by rw [placeE_doubt hY ho hr2 hs]) ?_
                refine lV (yMove rfl) rfl rfl ?_
                refine lV (yExtract rfl rfl) rfl rfl ?_
                refine lV (yExtract rfl rfl) rfl rfl ?_
                refine lE rfl ?_
                refine eAlloc Z24 fun n16 => ?_
                refine lE rfl ?_
                refine eStoreL 0 rfl rfl rfl rfl K24 rfl (rfl) ?_
                refine lV (yAssign rfl) rfl rfl ?_
                refine lNil ?_
                refine kThen ?_
                refine kSeq ?_
                refine kRegion rfl ?_
                refine lV (yLoadA (vs := [_, _, _, _, _, _, _]) rfl A65 (cOwn 3 rfl rfl)) rfl rfl ?_
                refine lV (yMove rfl) rfl rfl ?_
                refine lV (yCall rfl (.c rfl (.c rfl .n)) C44 (fun w hw => Scr.place_any (aloY y g) (aloneM X) (a : Nat) w (alone_in hm hg hw (.d 0 (.d 0 (.d 0 (.d 0 .r))))))) rfl rfl ?_
                refine same (t := 124) (u := outC ((0, 0), 12)) rfl (by rw [hpl, placeE_doubt hY ho hr2 hs]) ?_
                refine lV (yMove rfl) rfl rfl ?_
                refine lV (yExtract rfl rfl) rfl rfl ?_
                refine lV (yExtract rfl rfl) rfl rfl ?_
                refine lE rfl ?_
                refine eAlloc Z24 fun n18 => ?_
                refine lE rfl ?_
                refine eStoreL 0 rfl rfl rfl rfl K24 rfl (rfl) ?_
                refine lV (yAssign rfl) rfl rfl ?_
                refine lNil ?_
                refine kThen ?_
                refine kSeq ?_
                refine kSeq ?_
                refine kRegion rfl ?_
                refine lV (yLoadA (vs := [_, _]) rfl A24 (cOwn 1 rfl rfl)) rfl rfl ?_
                refine lV (yLoadA (vs := [_, _]) rfl A24 (cOwn 0 rfl rfl)) rfl rfl ?_
                refine lV (yNeAgg rfl rfl G24 (fun w => Q24 w)) rfl rfl ?_
                refine knownB (t := 129) (c := false) rfl (by simp) ?_
                refine lV (yMove rfl) rfl rfl ?_
                refine lGY rfl rfl rfl (oV (yMove rfl) rfl ?_)
                refine lGY rfl rfl rfl (oV (yMove rfl) rfl ?_)
                refine lGY rfl rfl rfl (oV (yNeq rfl rfl) rfl ?_)
                refine knownN (t := 133) rfl (fun h => h rfl) ?_
                refine lV (yPickF rfl rfl) rfl rfl ?_
                refine lNil ?_
                refine kThen ?_
                refine kIfF rfl ?_
                refine kSkip ?_
                refine kThen ?_
                refine kSeq ?_
                refine kRegion rfl ?_
                refine lV (yLoadA (vs := [_, _, _, _, _, _, _, _]) rfl A29 (cOwn 2 rfl rfl)) rfl rfl ?_
                refine lV (yMove rfl) rfl rfl ?_
                refine lV (yCall rfl (.c rfl (.c rfl .n)) C19 (fun w hw => place_any y X (a : Nat) w (hm.eff hw) (by omega))) rfl rfl ?_
                refine lV (yMove rfl) rfl rfl ?_
                refine lV (yExtract rfl rfl) rfl rfl ?_
                refine lV (yExtract rfl rfl) rfl rfl ?_
                refine lE rfl ?_
                refine eAlloc Z24 fun n20 => ?_
                refine lE rfl ?_
                refine eStoreL 0 rfl rfl rfl rfl K24 rfl (rfl) ?_
                refine lV (yAssign rfl) rfl rfl ?_
                refine lNil ?_
                refine kThen ?_
                refine kSeq ?_
                refine kRegion rfl ?_
                refine lV (yMove rfl) rfl rfl ?_
                refine lV (yEql rfl rfl) rfl rfl ?_
                refine knownN (t := 142) rfl (by decide) ?_
                refine lV (yMove rfl) rfl rfl ?_
                refine lGN rfl rfl rfl rfl rfl ?_
                refine lGN rfl rfl rfl rfl rfl ?_
                refine lGN rfl rfl rfl rfl rfl ?_
                refine lGU rfl rfl rfl rfl ?_
                refine lGU rfl rfl rfl rfl ?_
                refine lGU rfl rfl rfl rfl ?_
                refine lGU rfl rfl rfl rfl ?_
                refine lGU rfl rfl rfl rfl ?_
                refine lGN rfl rfl rfl rfl rfl ?_
                refine lGN rfl rfl rfl rfl rfl ?_
                refine lGU rfl rfl rfl rfl ?_
                refine lGU rfl rfl rfl rfl ?_
                refine lGU rfl rfl rfl rfl ?_
                refine lGU rfl rfl rfl rfl ?_
                refine lGU rfl rfl rfl rfl ?_
                refine lGN rfl rfl rfl rfl rfl ?_
                refine lV (yPickF rfl rfl) rfl rfl ?_
                refine lNil ?_
                refine kThen ?_
                refine kIfF rfl ?_
                refine kSkip ?_
                refine kInN ?_
                refine kThen ?_
                refine kRegion rfl ?_
                refine lV (yAdd rfl rfl (by omega)) rfl rfl ?_
                refine lV (yMove rfl) rfl rfl ?_
                refine lNil ?_
                exact kRoundX (a + 1) (by omega) (by omega) rfl (.c rfl .n) (.c rfl (.c rfl (.c rfl (.c rfl (.c rfl (.c rfl (.c rfl (.c rfl (.c rfl (.c rfl (.c rfl (.c rfl (.c rfl (.c rfl (.c rfl (.c rfl (.c rfl (.c rfl (.c rfl (.c rfl (.c rfl (.c rfl (.c rfl (.c rfl (.c rfl (.c rfl (.c rfl (.c rfl (.c rfl (.c rfl (.c rfl (.c rfl (.c rfl (.c rfl (.c rfl (.c rfl (.c rfl (.c rfl (.c rfl (.c rfl (.c rfl (.c rfl (.c rfl (.c rfl (.c rfl (.c rfl (.c rfl (.c rfl (.c rfl (.c rfl (.c rfl (.c rfl (.c rfl (.c rfl (.c rfl (.c rfl (.c rfl (.c rfl (.c rfl (.c rfl (.c rfl (.c rfl (.c rfl (.c rfl (.c rfl (.c rfl (.c rfl (.c rfl (.c rfl (.c rfl (.c rfl (.c rfl (.c rfl (.c rfl (.c rfl (.c rfl (.c rfl (.c rfl (.c rfl (.c rfl (.c rfl (.c rfl (.c rfl (.c rfl (.c rfl (.c rfl (.c rfl (.c rfl .n)))))))))))))))))))))))))))))))))))))))))))))))))))))))))))))))))))))))))))))))))))))))) (.c 3 rfl (.c 3 rfl (.c 3 rfl (.d 0 (.d 0 (.d 0 .r))))))
            · have hr : 0 ≤ ((a : Nat) : Int) ∧ ((a : Nat) : Int) ≤ X.images - 1 := by omega
              have hr2 : 0 ≤ ((a : Nat) : Int) ∧ ((a : Nat) : Int) ≤ (noneW X).images - 1 := hr
              have hpl := alone_place hM (a := a) (by omega)
              refine kRegion rfl ?_
              refine lV (yMove rfl) rfl rfl ?_
              refine lV (yAssign rfl) rfl rfl ?_
              refine lNil ?_
              refine kThen ?_
              refine kSeq ?_
              refine kRegion rfl ?_
              refine lV (yLoadA (vs := [_, _, _, _, _, _, _, _]) rfl A29 (cOwn 1 rfl rfl)) rfl rfl ?_
              refine lV (yMove rfl) rfl rfl ?_
              refine lV (yCall rfl (.c rfl (.c rfl .n)) C19 (fun w hw => place_any y (noneW X) (a : Nat) w ⟨(hm.eff hw).e, (hm.eff hw).l⟩ (by show X.looks.length ≤ 1000000; omega))) rfl rfl ?_
              refine same (t := 118) (u := outC ((0, 0), 10)) rfl (by rw [placeE_clash hY ho hr2]) ?_
              refine lV (yMove rfl) rfl rfl ?_
              refine lV (yExtract rfl rfl) rfl rfl ?_
              refine lV (yExtract rfl rfl) rfl rfl ?_
              refine lE rfl ?_
              refine eAlloc Z24 fun n16 => ?_
              refine lE rfl ?_
              refine eStoreL 0 rfl rfl rfl rfl K24 rfl (rfl) ?_
              refine lV (yAssign rfl) rfl rfl ?_
              refine lNil ?_
              refine kThen ?_
              refine kSeq ?_
              refine kRegion rfl ?_
              refine lV (yLoadA (vs := [_, _, _, _, _, _, _]) rfl A65 (cOwn 3 rfl rfl)) rfl rfl ?_
              refine lV (yMove rfl) rfl rfl ?_
              refine lV (yCall rfl (.c rfl (.c rfl .n)) C44 (fun w hw => Scr.place_any (aloY y g) (aloneM X) (a : Nat) w (alone_in hm hg hw (.d 0 (.d 0 (.d 0 (.d 0 .r))))))) rfl rfl ?_
              refine same (t := 124) (u := outC ((0, 0), 10)) rfl (by rw [hpl, placeE_clash hY ho hr2]) ?_
              refine lV (yMove rfl) rfl rfl ?_
              refine lV (yExtract rfl rfl) rfl rfl ?_
              refine lV (yExtract rfl rfl) rfl rfl ?_
              refine lE rfl ?_
              refine eAlloc Z24 fun n18 => ?_
              refine lE rfl ?_
              refine eStoreL 0 rfl rfl rfl rfl K24 rfl (rfl) ?_
              refine lV (yAssign rfl) rfl rfl ?_
              refine lNil ?_
              refine kThen ?_
              refine kSeq ?_
              refine kSeq ?_
              refine kRegion rfl ?_
              refine lV (yLoadA (vs := [_, _]) rfl A24 (cOwn 1 rfl rfl)) rfl rfl ?_
              refine lV (yLoadA (vs := [_, _]) rfl A24 (cOwn 0 rfl rfl)) rfl rfl ?_
              refine lV (yNeAgg rfl rfl G24 (fun w => Q24 w)) rfl rfl ?_
              refine knownB (t := 129) (c := false) rfl (by simp) ?_
              refine lV (yMove rfl) rfl rfl ?_
              refine lGY rfl rfl rfl (oV (yMove rfl) rfl ?_)
              refine lGY rfl rfl rfl (oV (yMove rfl) rfl ?_)
              refine lGY rfl rfl rfl (oV (yNeq rfl rfl) rfl ?_)
              refine knownN (t := 133) rfl (fun h => h rfl) ?_
              refine lV (yPickF rfl rfl) rfl rfl ?_
              refine lNil ?_
              refine kThen ?_
              refine kIfF rfl ?_
              refine kSkip ?_
              refine kThen ?_
              refine kSeq ?_
              refine kRegion rfl ?_
              refine lV (yLoadA (vs := [_, _, _, _, _, _, _, _]) rfl A29 (cOwn 2 rfl rfl)) rfl rfl ?_
              refine lV (yMove rfl) rfl rfl ?_
              refine lV (yCall rfl (.c rfl (.c rfl .n)) C19 (fun w hw => place_any y X (a : Nat) w (hm.eff hw) (by omega))) rfl rfl ?_
              refine lV (yMove rfl) rfl rfl ?_
              refine lV (yExtract rfl rfl) rfl rfl ?_
              refine lV (yExtract rfl rfl) rfl rfl ?_
              refine lE rfl ?_
              refine eAlloc Z24 fun n20 => ?_
              refine lE rfl ?_
              refine eStoreL 0 rfl rfl rfl rfl K24 rfl (rfl) ?_
              refine lV (yAssign rfl) rfl rfl ?_
              refine lNil ?_
              refine kThen ?_
              refine kSeq ?_
              refine kRegion rfl ?_
              refine lV (yMove rfl) rfl rfl ?_
              refine lV (yEql rfl rfl) rfl rfl ?_
              refine knownN (t := 142) rfl (by decide) ?_
              refine lV (yMove rfl) rfl rfl ?_
              refine lGN rfl rfl rfl rfl rfl ?_
              refine lGN rfl rfl rfl rfl rfl ?_
              refine lGN rfl rfl rfl rfl rfl ?_
              refine lGU rfl rfl rfl rfl ?_
              refine lGU rfl rfl rfl rfl ?_
              refine lGU rfl rfl rfl rfl ?_
              refine lGU rfl rfl rfl rfl ?_
              refine lGU rfl rfl rfl rfl ?_
              refine lGN rfl rfl rfl rfl rfl ?_
              refine lGN rfl rfl rfl rfl rfl ?_
              refine lGU rfl rfl rfl rfl ?_
              refine lGU rfl rfl rfl rfl ?_
              refine lGU rfl rfl rfl rfl ?_
              refine lGU rfl rfl rfl rfl ?_
              refine lGU rfl rfl rfl rfl ?_
              refine lGN rfl rfl rfl rfl rfl ?_
              refine lV (yPickF rfl rfl) rfl rfl ?_
              refine lNil ?_
              refine kThen ?_
              refine kIfF rfl ?_
              refine kSkip ?_
              refine kInN ?_
              refine kThen ?_
              refine kRegion rfl ?_
              refine lV (yAdd rfl rfl (by omega)) rfl rfl ?_
              refine lV (yMove rfl) rfl rfl ?_
              refine lNil ?_
              exact kRoundX (a + 1) (by omega) (by omega) rfl (.c rfl .n) (.c rfl (.c rfl (.c rfl (.c rfl (.c rfl (.c rfl (.c rfl (.c rfl (.c rfl (.c rfl (.c rfl (.c rfl (.c rfl (.c rfl (.c rfl (.c rfl (.c rfl (.c rfl (.c rfl (.c rfl (.c rfl (.c rfl (.c rfl (.c rfl (.c rfl (.c rfl (.c rfl (.c rfl (.c rfl (.c rfl (.c rfl (.c rfl (.c rfl (.c rfl (.c rfl (.c rfl (.c rfl (.c rfl (.c rfl (.c rfl (.c rfl (.c rfl (.c rfl (.c rfl (.c rfl (.c rfl (.c rfl (.c rfl (.c rfl (.c rfl (.c rfl (.c rfl (.c rfl (.c rfl (.c rfl (.c rfl (.c rfl (.c rfl (.c rfl (.c rfl (.c rfl (.c rfl (.c rfl (.c rfl (.c rfl (.c rfl (.c rfl (.c rfl (.c rfl (.c rfl (.c rfl (.c rfl (.c rfl (.c rfl (.c rfl (.c rfl (.c rfl (.c rfl (.c rfl (.c rfl (.c rfl (.c rfl (.c rfl (.c rfl (.c rfl (.c rfl (.c rfl (.c rfl .n)))))))))))))))))))))))))))))))))))))))))))))))))))))))))))))))))))))))))))))))))))))))) (.c 3 rfl (.c 3 rfl (.c 3 rfl (.d 0 (.d 0 (.d 0 .r))))))
          · refine kIfF rfl ?_
            refine kExit ?_
            refine kThenX ?_
            refine kThenX ?_
            refine kInX ?_
            refine kThen ?_
            refine kSeq ?_
            refine kRegion rfl ?_
            refine lV (yCall rfl .n C41 (fun w hw => awake03_any w)) rfl rfl ?_
            refine lV (yAssign rfl) rfl rfl ?_
            refine lNil ?_
            refine kThen ?_
            refine kRet ?_
            refine fRet rfl (.t rfl .n) (endRet ?_)
            first | rfl | (simp [packV, *]; done)
end Go.Proofs.Ytiaaidcdoenloaa
