/-
  Walks: the document's examples as the statements ask for them.
-/
import Derived.Test.YtoefcofplkbnkaaLe
namespace Go.Proofs.Ytoefcofplkbnkaa
open ZW

set_option maxRecDepth 100000 in
theorem spanL_any (lo hi : Int) (w : World) : Calls Try.prog 30 [i64 lo, i64 hi].toArray w (Ret w (.agg [i64 lo, i64 hi].toArray)) := by
  refine fEnter Try.func30 rfl Try.ntmps30 rfl ?_
  refine kSeq ?_
  refine kRegion rfl ?_
  refine lE rfl ?_
  refine eAlloc Z24 fun n4 => ?_
  refine lNil ?_
  refine kThen ?_
  refine kSeq ?_
  refine kRegion rfl ?_
  refine lV (yMove rfl) rfl rfl ?_
  refine lV (yMove rfl) rfl rfl ?_
  refine lV (yBuild (.c rfl (.c rfl .n)) (fun w => B24_0_1 w)) rfl rfl ?_
  refine lE rfl ?_
  refine eStoreL 0 rfl rfl rfl rfl K24 rfl (rfl) ?_
  refine lNil ?_
  refine kThen ?_
  refine kRet ?_
  refine fRet rfl (.cA (us := [_, _]) rfl A24 (cOwn 0 rfl rfl) .n) (endRet ?_)
  rfl
set_option maxRecDepth 100000 in
theorem fifth_any (w : World) : Calls Try.prog 42 [].toArray w (Ret w (.agg (rowS fifthP).toArray)) := by
  refine fEnter Try.func42 rfl Try.ntmps42 rfl ?_
  refine kSeq ?_
  refine kRegion rfl ?_
  refine lE rfl ?_
  refine eAlloc Z49 fun n0 => ?_
  refine lNil ?_
  refine kThen ?_
  refine kSeq ?_
  refine kRegion rfl ?_
  refine lV (yBuild (.c rfl (.c rfl .n)) (fun w => B49_0_1 w)) rfl rfl ?_
  refine lE rfl ?_
  refine eStoreL 0 rfl rfl rfl rfl K49 rfl (rfl) ?_
  refine lNil ?_
  refine kThen ?_
  refine kRet ?_
  refine fRet rfl (.cA (us := [_, _, _]) rfl A49 (cOwn 0 rfl rfl) .n) (endRet ?_)
  rfl

abbrev locS (x : Nat × Own) : Loc := ⟨some ⟨x.1, 0, none⟩, 4, osA x.2, osC x.2⟩
abbrev errs4 : List Value := [i64 (-2), i64 2, i64 0, i64 5, i64 1, i64 1, i64 (-4), i64 0]
abbrev sets12 : List Value := [i64 0, i64 500, .bool false, i64 0, i64 2504, .bool true, i64 1, i64 1200, .bool false, i64 1, i64 1788, .bool true]
theorem rowsS_len (l : List (Int × Int × Bool)) : ∀ x ∈ l.map rowS, x.length = 3 := by
  intro x hx; obtain ⟨y, _, rfl⟩ := List.mem_map.1 hx; rfl
theorem rowsS_one (l : List (Int × Int × Bool)) : ∀ x ∈ l.map rowS, ∀ u ∈ x, u.oneCell' = true := by
  intro x hx u hu; obtain ⟨y, _, rfl⟩ := List.mem_map.1 hx
  simp only [rowS, List.mem_cons, List.not_mem_nil, or_false] at hu
  rcases hu with rfl | rfl | rfl <;> rfl
theorem sam_in {W w : World} {L : Heap} {n : Nat} {g : Own} {ls : List (Int × Int × Bool)} (hx : OS 3 g (ls.map rowS)) (hw : Eff W [] L w) (hb : w.heap[n]? = some (blk errs4 24)) (hs : SubP (osL 49 g) L) : InM w (locS (n, g)) (sampleM ls) :=
  ⟨sleRows (f := rowE) (fun _ => rfl) (0, 0) [(-2, 2), (0, 5), (1, 1), (-4, 0)] rfl hb, OS.rowsE (f := rowS) (0, 0, false) hx hw hs⟩

set_option maxRecDepth 100000 in
theorem sample_any (a : Option Addr) (c k : Nat) (l : List (Int × Int × Bool)) (w : World) (hk : k = l.length) (hl : l.length ≤ 100) (hs : SlE w a k 3 (setC l)) : Calls Try.prog 41 [.slice a k c].toArray w
    (RetX w (fun x : Nat × Own => OS 3 x.2 ((sets4 ++ l).map rowS)) (fun x => .agg (measC (locS x) (sampleM (sets4 ++ l))).toArray) (fun _ => []) (fun x => [(x.1, blk errs4 24)] ++ osL 49 x.2)) := by
  subst hk
  refine fEnter Try.func41 rfl Try.ntmps41 rfl ?_
  refine kSeq ?_
  refine kRegion rfl ?_
  refine lE rfl ?_
  refine eAlloc Z29 fun n2 => ?_
  refine lNil ?_
  refine kThen ?_
  refine kSeq ?_
  refine kRegion rfl ?_
  refine lV (yCall rfl (.c rfl (.c rfl .n)) C30 (fun w hw => spanL_any _ _ w)) rfl rfl ?_
  refine lV (yCall rfl (.c rfl (.c rfl .n)) C30 (fun w hw => spanL_any _ _ w)) rfl rfl ?_
  refine lV (yCall rfl (.c rfl (.c rfl .n)) C30 (fun w hw => spanL_any _ _ w)) rfl rfl ?_
  refine lV (yCall rfl (.c rfl (.c rfl .n)) C30 (fun w hw => spanL_any _ _ w)) rfl rfl ?_
  refine lE rfl ?_
  refine eBuildSlice (.c rfl (.c rfl (.c rfl (.c rfl .n)))) (fun w => BS22_4_0_1_2_3 w) fun n9 => ?_
  refine lV (yCall rfl (.c rfl (.c rfl .n)) C30 (fun w hw => spanL_any _ _ w)) rfl rfl ?_
  refine lV (yBuild (.c rfl (.c rfl .n)) (fun w => B26_0_1 w)) rfl rfl ?_
  refine lE rfl ?_
  refine eAlloc Z26 fun n3 => ?_
  refine lE rfl ?_
  refine eStoreL 0 rfl rfl rfl rfl K26 rfl (rfl) ?_
  refine lNil ?_
  refine kThen ?_
  refine kSeq ?_
  refine kRegion rfl ?_
  refine lV (yBuild (.c rfl (.c rfl .n)) (fun w => B49_0_1 w)) rfl rfl ?_
  refine lV (yBuild (.c rfl (.c rfl (.c rfl .n))) (fun w => B49_0_1_2 w)) rfl rfl ?_
  refine lV (yBuild (.c rfl (.c rfl .n)) (fun w => B49_0_1 w)) rfl rfl ?_
  refine lV (yBuild (.c rfl (.c rfl (.c rfl .n))) (fun w => B49_0_1_2 w)) rfl rfl ?_
  refine lE rfl ?_
  refine eBuildSlice (.c rfl (.c rfl (.c rfl (.c rfl .n)))) (fun w => BS27_4_0_1_2_3 w) fun n16 => ?_
  refine lV (yAssign rfl) rfl rfl ?_
  refine lNil ?_
  refine kThen ?_
  refine kSeq ?_
  refine kDrawE [(0, some [1]), (1, none)] [] [0, 1, 2, 3] 3 hMix (by kernel_rfl) ?_
  refine .run rfl (yLoadA (vs := [_, _, _]) rfl A26 (cOwn 0 rfl rfl)) rfl rfl ?_
  refine .run rfl (yCall rfl (.c rfl (.c rfl .n)) C30 (fun w hw => spanL_any _ _ w)) rfl rfl ?_
  refine .run rfl (yMove rfl) rfl rfl ?_
  refine .run rfl (yMove rfl) rfl rfl ?_
  refine .done ?_
  refine effStep 4 [] (by kernel_rfl) closedSt (hLeft [0, 1] (by kernel_rfl) (.c (fun _ _ hs => hs.ef.sub (.c 1 rfl .n)) (.c (fun _ _ hs => hs.ef) .n))) ?_
  refine .c ?_ .n
  refine effOne rfl (gNone rfl (fAppend (gs := .b n16 4 sets12) [(n3, _), (n9, _), (n2, _)] (es := sets4.map rowS) (l.map rowS) AP27 rfl rfl (.c 1 rfl (.c 1 rfl (.c 1 rfl (.c 0 rfl .n)))) (OS.lit (es := sets4.map rowS) (rowsS_len _) rfl (by decide)) (by simp) (rowsS_len l) (flatten_range (f := rowS) l (0, 0, false) ▸ SlN.sl hs.r) (rowsS_one l) (by simp [sets4]; omega) (by simp [sets4]; omega))) ?_
  refine effStep 5 [] (by kernel_rfl) (closedEx fun h => closedSt) (hLeft [0] (by kernel_rfl) (.c (fun _ _ ⟨h, hs⟩ => hs.ef.sub (.c 0 rfl .n)) .n)) ?_
  refine .c ?_ .n
  refine effOne rfl (opEx fun h => (gNone rfl (fV (yBuild (.c rfl (.c rfl (.c rfl (.c rfl .n)))) (fun w => B29_0_1_2_3 w)) rfl))) ?_
  refine effStep 6 [] (by kernel_rfl) (closedEx fun h => closedSt) (hLeft [] (by kernel_rfl) .n) ?_
  refine .c ?_ .n
  refine effOne rfl (opEx fun h => (gNone rfl (fStoreL 2 rfl rfl rfl rfl K29 rfl (rfl)))) ?_
  refine effDone (closedEx fun h => closedSt) (hLeft [] (by kernel_rfl) .n) (by kernel_rfl) ?_
  refine trEx fun h => ?_
  refine kThen ?_
  refine kRet ?_
  refine fRet rfl (.cA (us := [_, _, _, _, _, _, _]) rfl A29 (cOwn 2 rfl rfl) .n) ?_
  have hlen : (sets4.map rowS ++ l.map rowS).length = (sampleM (sets4 ++ l)).sets.length := by simp [sampleM]
  rw [hlen]
  exact endX (n9, h.1) (by rw [List.map_append]; exact h.2) rfl rfl (.c 1 rfl (.d 0 (.d 0 .r)))
theorem sample0_any (w : World) : Calls Try.prog 41 [.slice none 0 0].toArray w
    (RetX w (fun x : Nat × Own => OS 3 x.2 (sets4.map rowS)) (fun x => .agg (measC (locS x) sam).toArray) (fun _ => []) (fun x => [(x.1, blk errs4 24)] ++ osL 49 x.2)) :=
  sample_any none 0 0 [] w rfl (by decide) SlE.nil
theorem sample5_any (n : Nat) (w : World) (hb : w.heap[n]? = some (blk (rowS fifthP) 49)) : Calls Try.prog 41 [.slice (some ⟨n, 0, none⟩) 1 1].toArray w
    (RetX w (fun x : Nat × Own => OS 3 x.2 ((sets4 ++ [fifthP]).map rowS)) (fun x => .agg (measC (locS x) sam5).toArray) (fun _ => []) (fun x => [(x.1, blk errs4 24)] ++ osL 49 x.2)) :=
  sample_any (some ⟨n, 0, none⟩) 1 1 [fifthP] w rfl (by decide) (sleRows (f := rowS) (fun _ => rfl) (0, 0, false) [fifthP] rfl hb)

set_option maxRecDepth 100000 in
theorem alive_any (w : World) : Calls Try.prog 15 [].toArray w (Ret w (.bool true)) := by
  refine fEnter Try.func15 rfl Try.ntmps15 rfl ?_
  refine kSeq ?_
  refine kRegion rfl ?_
  refine lV (yAssign rfl) rfl rfl ?_
  refine lNil ?_
  refine kThen ?_
  refine kSeq ?_
  refine kRegion rfl ?_
  refine lE rfl ?_
  refine eCallO rfl (.c rfl .n) C41 (fun w hw => sample0_any w) fun x hx => ?_
  obtain ⟨e, g⟩ := x
  dsimp only at hx ⊢
  refine lV (yField rfl (fun w => FD29_0 w)) rfl rfl ?_
  refine lV (yCall rfl (.c rfl (.c rfl .n)) C16 (fun w hw => travelX_any (locS (e, g)) sam 1200 w (sam_in hx hw (hw.blkAt 0 rfl) (.d 0 .r)))) rfl rfl ?_
  refine same (t := 16) (u := outC ((1197, 1208), 0)) rfl (by rw [v_travel]) ?_
  refine lV (yMove rfl) rfl rfl ?_
  refine lV (yExtract rfl rfl) rfl rfl ?_
  refine lV (yExtract rfl rfl) rfl rfl ?_
  refine lE rfl ?_
  refine eAlloc Z24 fun n1 => ?_
  refine lE rfl ?_
  refine eStoreL 0 rfl rfl rfl rfl K24 rfl (rfl) ?_
  refine lV (yAssign rfl) rfl rfl ?_
  refine lNil ?_
  refine kThen ?_
  refine kSeq ?_
  refine forgetP [(n1, _)] (.c 0 rfl .n) ?_
  refine kRegion rfl ?_
  refine lE rfl ?_
  refine eCallO rfl (.c rfl .n) C41 (fun w hw => sample0_any w) fun x hx => ?_
  obtain ⟨e, g⟩ := x
  dsimp only at hx ⊢
  refine lV (yCall rfl (.c rfl .n) C18 (fun w hw => sum_any (locS (e, g)) sam w (sam_in hx hw (hw.blkAt 1 rfl) (.d 0 (.d 0 .r))))) rfl rfl ?_
  refine same (t := 21) (u := outC ((2997, 3004), 0)) rfl (by rw [v_sum]) ?_
  refine lV (yMove rfl) rfl rfl ?_
  refine lV (yExtract rfl rfl) rfl rfl ?_
  refine lV (yExtract rfl rfl) rfl rfl ?_
  refine lE rfl ?_
  refine eAlloc Z24 fun n3 => ?_
  refine lE rfl ?_
  refine eStoreL 0 rfl rfl rfl rfl K24 rfl (rfl) ?_
  refine lV (yAssign rfl) rfl rfl ?_
  refine lNil ?_
  refine kThen ?_
  refine kSeq ?_
  refine forgetP [(n3, _), (n1, _)] (.c 0 rfl (.c 0 rfl .n)) ?_
  refine kRegion rfl ?_
  refine lE rfl ?_
  refine eCallO rfl (.c rfl .n) C41 (fun w hw => sample0_any w) fun x hx => ?_
  obtain ⟨e, g⟩ := x
  dsimp only at hx ⊢
  refine lV (yCall rfl (.c rfl (.c rfl .n)) C20 (fun w hw => place_any (locS (e, g)) sam 1 w (sam_in hx hw (hw.blkAt 2 rfl) (.d 0 (.d 0 (.d 0 .r)))))) rfl rfl ?_
  refine same (t := 26) (u := outC ((1201, 1208), 0)) rfl (by rw [v_place1]) ?_
  refine lV (yMove rfl) rfl rfl ?_
  refine lV (yExtract rfl rfl) rfl rfl ?_
  refine lV (yExtract rfl rfl) rfl rfl ?_
  refine lE rfl ?_
  refine eAlloc Z24 fun n5 => ?_
  refine lE rfl ?_
  refine eStoreL 0 rfl rfl rfl rfl K24 rfl (rfl) ?_
  refine lV (yAssign rfl) rfl rfl ?_
  refine lNil ?_
  refine kThen ?_
  refine kSeq ?_
  refine forgetP [(n5, _), (n3, _), (n1, _)] (.c 0 rfl (.c 0 rfl (.c 0 rfl .n))) ?_
  refine kRegion rfl ?_
  refine lE rfl ?_
  refine eCallO rfl (.c rfl .n) C41 (fun w hw => sample0_any w) fun x hx => ?_
  obtain ⟨e, g⟩ := x
  dsimp only at hx ⊢
  refine lV (yCall rfl (.c rfl (.c rfl (.c rfl .n))) C22 (fun w hw => apart_any (locS (e, g)) sam 0 1 w (sam_in hx hw (hw.blkAt 3 rfl) (.d 0 (.d 0 (.d 0 (.d 0 .r))))))) rfl rfl ?_
  refine same (t := 31) (u := outC ((706, 713), 0)) rfl (by rw [v_apart01]) ?_
  refine lV (yMove rfl) rfl rfl ?_
  refine lV (yExtract rfl rfl) rfl rfl ?_
  refine lV (yExtract rfl rfl) rfl rfl ?_
  refine lE rfl ?_
  refine eAlloc Z24 fun n7 => ?_
  refine lE rfl ?_
  refine eStoreL 0 rfl rfl rfl rfl K24 rfl (rfl) ?_
  refine lV (yAssign rfl) rfl rfl ?_
  refine lNil ?_
  refine kThen ?_
  refine kSeq ?_
  refine forgetP [(n7, _), (n5, _), (n3, _), (n1, _)] (.c 0 rfl (.c 0 rfl (.c 0 rfl (.c 0 rfl .n)))) ?_
  refine kRegion rfl ?_
  refine lV (yCall rfl .n C42 (fun w hw => fifth_any w)) rfl rfl ?_
  refine lE rfl ?_
  refine eBuildSlice (.c rfl .n) (fun w => BS27_1_0 w) fun nf => ?_
  refine lE rfl ?_
  refine eCallO rfl (.c rfl .n) C41 (fun w hw => sample5_any nf w (hw.blkAt 0 rfl)) fun x hx => ?_
  obtain ⟨e, g⟩ := x
  dsimp only at hx ⊢
  refine lV (yCall rfl (.c rfl .n) C26 (fun w hw => clash_any (locS (e, g)) sam5 w (sam_in hx hw (hw.blkAt 5 rfl) (.d 0 (.d 0 (.d 0 (.d 0 (.d 0 (.d 0 .r))))))))) rfl rfl ?_
  refine same (t := 38) (u := outI (17, 0)) rfl (by rw [v_clash5]) ?_
  refine lV (yMove rfl) rfl rfl ?_
  refine lV (yExtract rfl rfl) rfl rfl ?_
  refine lV (yExtract rfl rfl) rfl rfl ?_
  refine lV (yAssign rfl) rfl rfl ?_
  refine lV (yAssign rfl) rfl rfl ?_
  refine lNil ?_
  refine kThen ?_
  refine kSeq ?_
  refine forgetP [(n7, _), (n5, _), (n3, _), (n1, _)] (.c 1 rfl (.c 1 rfl (.c 1 rfl (.c 1 rfl .n)))) ?_
  refine kRegion rfl ?_
  refine lV (yCall rfl .n C42 (fun w hw => fifth_any w)) rfl rfl ?_
  refine lE rfl ?_
  refine eBuildSlice (.c rfl .n) (fun w => BS27_1_0 w) fun nf => ?_
  refine lE rfl ?_
  refine eCallO rfl (.c rfl .n) C41 (fun w hw => sample5_any nf w (hw.blkAt 0 rfl)) fun x hx => ?_
  obtain ⟨e, g⟩ := x
  dsimp only at hx ⊢
  refine lV (yCall rfl (.c rfl .n) C27 (fun w hw => drop_any (locS (e, g)) sam5 w (sam_in hx hw (hw.blkAt 5 rfl) (.d 0 (.d 0 (.d 0 (.d 0 (.d 0 (.d 0 .r))))))))) rfl rfl ?_
  refine same (t := 45) (u := outI (16, 0)) rfl (by rw [v_drop5]) ?_
  refine lV (yMove rfl) rfl rfl ?_
  refine lV (yExtract rfl rfl) rfl rfl ?_
  refine lV (yExtract rfl rfl) rfl rfl ?_
  refine lV (yAssign rfl) rfl rfl ?_
  refine lV (yAssign rfl) rfl rfl ?_
  refine lNil ?_
  refine kThen ?_
  refine kSeq ?_
  refine forgetP [(n7, _), (n5, _), (n3, _), (n1, _)] (.c 1 rfl (.c 1 rfl (.c 1 rfl (.c 1 rfl .n)))) ?_
  refine kDrawE [(0, none), (1, none), (8, none), (9, none), (17, none), (18, none), (26, none), (27, none)] [] [0, 1, 2, 3, 4, 5, 6, 7, 8, 9, 10, 11, 12, 13, 14, 15, 16, 17, 18, 19, 20, 21, 22, 23, 24, 25, 26, 27, 28, 29, 30, 31, 32, 33, 34, 35, 36, 37, 38, 39, 40, 41, 42, 43, 44, 45, 46, 47, 48, 49, 50] 0 hMix (by kernel_rfl) ?_
  refine .run rfl (yLoadA (vs := [_, _]) rfl A24 (cOwn 3 rfl rfl)) rfl rfl ?_
  refine .run rfl (yCall rfl (.c rfl (.c rfl .n)) C30 (fun w hw => spanL_any _ _ w)) rfl rfl ?_
  refine .run rfl (yvTrue (yEqAgg rfl rfl G24 (fun w => Q24 w)) (by decide)) rfl rfl ?_
  refine .run rfl (yMove rfl) rfl rfl ?_
  refine .runG rfl (yMove rfl) rfl rfl rfl rfl ?_
  refine .runG rfl (yvTrue (yEql rfl rfl) (by decide)) rfl rfl rfl rfl ?_
  refine .run rfl (yPickT rfl rfl) rfl rfl ?_
  refine .run rfl (yMove rfl) rfl rfl ?_
  refine .runG rfl (yLoadA (vs := [_, _]) rfl A24 (cOwn 2 rfl rfl)) rfl rfl rfl rfl ?_
  refine .runG rfl (yCall rfl (.c rfl (.c rfl .n)) C30 (fun w hw => spanL_any _ _ w)) rfl rfl rfl rfl ?_
  refine .runG rfl (yvTrue (yEqAgg rfl rfl G24 (fun w => Q24 w)) (by decide)) rfl rfl rfl rfl ?_
  refine .run rfl (yPickT rfl rfl) rfl rfl ?_
  refine .run rfl (yMove rfl) rfl rfl ?_
  refine .runG rfl (yMove rfl) rfl rfl rfl rfl ?_
  refine .runG rfl (yvTrue (yEql rfl rfl) (by decide)) rfl rfl rfl rfl ?_
  refine .run rfl (yPickT rfl rfl) rfl rfl ?_
  refine .run rfl (yMove rfl) rfl rfl ?_
  refine .runG rfl (yLoadA (vs := [_, _]) rfl A24 (cOwn 1 rfl rfl)) rfl rfl rfl rfl ?_
  refine .runG rfl (yCall rfl (.c rfl (.c rfl .n)) C30 (fun w hw => spanL_any _ _ w)) rfl rfl rfl rfl ?_
  refine .runG rfl (yvTrue (yEqAgg rfl rfl G24 (fun w => Q24 w)) (by decide)) rfl rfl rfl rfl ?_
  refine .run rfl (yPickT rfl rfl) rfl rfl ?_
  refine .run rfl (yMove rfl) rfl rfl ?_
  refine .runG rfl (yMove rfl) rfl rfl rfl rfl ?_
  refine .runG rfl (yvTrue (yEql rfl rfl) (by decide)) rfl rfl rfl rfl ?_
  refine .run rfl (yPickT rfl rfl) rfl rfl ?_
  refine .run rfl (yMove rfl) rfl rfl ?_
  refine .runG rfl (yLoadA (vs := [_, _]) rfl A24 (cOwn 0 rfl rfl)) rfl rfl rfl rfl ?_
  refine .runG rfl (yCall rfl (.c rfl (.c rfl .n)) C30 (fun w hw => spanL_any _ _ w)) rfl rfl rfl rfl ?_
  refine .runG rfl (yvTrue (yEqAgg rfl rfl G24 (fun w => Q24 w)) (by decide)) rfl rfl rfl rfl ?_
  refine .run rfl (yPickT rfl rfl) rfl rfl ?_
  refine .run rfl (yMove rfl) rfl rfl ?_
  refine .runG rfl (yMove rfl) rfl rfl rfl rfl ?_
  refine .runG rfl (yvTrue (yEql rfl rfl) (by decide)) rfl rfl rfl rfl ?_
  refine .run rfl (yPickT rfl rfl) rfl rfl ?_
  refine .run rfl (yMove rfl) rfl rfl ?_
  refine .runG rfl (yMove rfl) rfl rfl rfl rfl ?_
  refine .runG rfl (yvTrue (yEql rfl rfl) (by decide)) rfl rfl rfl rfl ?_
  refine .run rfl (yPickT rfl rfl) rfl rfl ?_
  refine .run rfl (yMove rfl) rfl rfl ?_
  refine .runG rfl (yMove rfl) rfl rfl rfl rfl ?_
  refine .runG rfl (yvTrue (yEql rfl rfl) (by decide)) rfl rfl rfl rfl ?_
  refine .run rfl (yPickT rfl rfl) rfl rfl ?_
  refine .run rfl (yMove rfl) rfl rfl ?_
  refine .runG rfl (yMove rfl) rfl rfl rfl rfl ?_
  refine .runG rfl (yvTrue (yEql rfl rfl) (by decide)) rfl rfl rfl rfl ?_
  refine .run rfl (yPickT rfl rfl) rfl rfl ?_
  refine .run rfl (yMove rfl) rfl rfl ?_
  refine .runG rfl (yMove rfl) rfl rfl rfl rfl ?_
  refine .runG rfl (yvTrue (yEql rfl rfl) (by decide)) rfl rfl rfl rfl ?_
  refine .run rfl (yPickT rfl rfl) rfl rfl ?_
  refine .run rfl (yAssign rfl) rfl rfl ?_
  refine .done ?_
  refine effDone closedSt (hLeft [0, 1, 8, 9, 17, 18, 26, 27] (by kernel_rfl) (.c (fun _ _ hs => hs.ef) (.c (fun _ _ hs => hs.ef) (.c (fun _ _ hs => hs.ef) (.c (fun _ _ hs => hs.ef) (.c (fun _ _ hs => hs.ef) (.c (fun _ _ hs => hs.ef) (.c (fun _ _ hs => hs.ef) (.c (fun _ _ hs => hs.ef) .n))))))))) (by kernel_rfl) ?_
  refine kThen ?_
  refine kRet ?_
  refine fRet rfl (.t rfl .n) (endRet ?_)
  rfl
end Go.Proofs.Ytoefcofplkbnkaa
