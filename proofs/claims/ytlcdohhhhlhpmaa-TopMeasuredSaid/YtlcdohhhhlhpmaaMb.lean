/-
  Walks: the small functions of TopMeasured.
-/
import Derived.Test.YtlcdohhhhlhpmaaMa
namespace Go.Proofs.Ytlcdohhhhlhpmaa
open ZW

theorem endWk {W : World} {L R : Heap} {b : Nat} {o o' : Obj} {v u : Value} (hv : u = v) (ho : o = o') (hr : ∀ p ∈ R, W.heap[p.1]? = some p.2) : ∀ w, Eff W ((b, o) :: R) L w → Wr W b o' v (.returned u) w := fun w hw =>
  ⟨by rw [hv], ho ▸ (Eff.keepM (M1 := [(b, o)]) hw hr).sub .n⟩
set_option maxRecDepth 100000 in
theorem span4_any (lo hi : Int) (w : World) : Calls Try.prog 48 [i64 lo, i64 hi].toArray w (Ret w (.agg [i64 lo, i64 hi].toArray)) := by
  refine fEnter Try.func48 rfl Try.ntmps48 rfl ?_
  refine kSeq ?_
  refine kRegion rfl ?_
  refine lE rfl ?_
  refine eAlloc Z23 fun n4 => ?_
  refine lNil ?_
  refine kThen ?_
  refine kSeq ?_
  refine kRegion rfl ?_
  refine lV (yMove rfl) rfl rfl ?_
  refine lV (yMove rfl) rfl rfl ?_
  refine lV (yBuild (.c rfl (.c rfl .n)) (fun w => B23_0_1 w)) rfl rfl ?_
  refine lE rfl ?_
  refine eStoreL 0 rfl rfl rfl rfl K23 rfl (rfl) ?_
  refine lNil ?_
  refine kThen ?_
  refine kRet ?_
  refine fRet rfl (.cA (us := [_, _]) rfl A23 (cOwn 0 rfl rfl) .n) (endRet ?_)
  rfl
set_option maxRecDepth 100000 in
theorem inside4_any (lo hi n : Int) (w : World) : Calls Try.prog 51 [i64 n, .agg [i64 lo, i64 hi].toArray].toArray w (Ret w (.bool (decide (lo ≤ n ∧ n ≤ hi)))) := by
  refine fEnter Try.func51 rfl Try.ntmps51 rfl ?_
  refine kSeq ?_
  refine kRegion rfl ?_
  refine lE rfl ?_
  refine eBoxA rfl fun n3 => ?_
  refine lV (yAssign rfl) rfl rfl ?_
  refine lNil ?_
  refine kThen ?_
  refine kSeq ?_
  refine kRegion rfl ?_
  refine lV (yFieldAddr rfl F23_0) rfl rfl ?_
  refine lV (yLoad1 rfl O3 (cOwn 0 rfl rfl)) rfl rfl ?_
  refine lV (yMove rfl) rfl rfl ?_
  refine lV (yLeq rfl rfl) rfl rfl ?_
  refine lV (yMove rfl) rfl rfl ?_
  refine split (t := 9) rfl (fun h9 => ?_) (fun h9 => ?_)
  · refine lGY rfl rfl rfl (oV (yMove rfl) rfl ?_)
    refine lGY rfl rfl rfl (oV (yFieldAddr rfl F23_1) rfl ?_)
    refine lGY rfl rfl rfl (oV (yLoad1 rfl O3 (cOwn 0 rfl rfl)) rfl ?_)
    refine lGY rfl rfl rfl (oV (yLeq rfl rfl) rfl ?_)
    refine lV (yPickT rfl rfl) rfl rfl ?_
    refine lV (yAssign rfl) rfl rfl ?_
    refine lNil ?_
    refine kThen ?_
    refine kRet ?_
    refine fRet rfl (.t rfl .n) (endRet ?_)
    simp [packV, *]
  · refine lGN rfl rfl rfl rfl rfl ?_
    refine lGN rfl rfl rfl rfl rfl ?_
    refine lGN rfl rfl rfl rfl rfl ?_
    refine lGN rfl rfl rfl rfl rfl ?_
    refine lV (yPickF rfl rfl) rfl rfl ?_
    refine lV (yAssign rfl) rfl rfl ?_
    refine lNil ?_
    refine kThen ?_
    refine kRet ?_
    refine fRet rfl (.t rfl .n) (endRet ?_)
    simp [packV, *]
set_option maxRecDepth 100000 in
theorem known4_any (a b c d e f g h : Int) (w : World) : Calls Try.prog 117 [i64 a, i64 b, i64 c, i64 d, i64 e, i64 f, i64 g, i64 h].toArray w (Ret w (.agg (rowS ⟨(a, b), (c, d), true, (e, f), (g, h)⟩).toArray)) := by
  refine fEnter Try.func117 rfl Try.ntmps117 rfl ?_
  refine kSeq ?_
  refine kRegion rfl ?_
  refine lE rfl ?_
  refine eAlloc Z58 fun n16 => ?_
  refine lNil ?_
  refine kThen ?_
  refine kSeq ?_
  refine kRegion rfl ?_
  refine lV (yMove rfl) rfl rfl ?_
  refine lV (yMove rfl) rfl rfl ?_
  refine lV (yCall rfl (.c rfl (.c rfl .n)) C48 (fun w hw => span4_any _ _ w)) rfl rfl ?_
  refine lV (yMove rfl) rfl rfl ?_
  refine lV (yMove rfl) rfl rfl ?_
  refine lV (yCall rfl (.c rfl (.c rfl .n)) C48 (fun w hw => span4_any _ _ w)) rfl rfl ?_
  refine lV (yMove rfl) rfl rfl ?_
  refine lV (yMove rfl) rfl rfl ?_
  refine lV (yCall rfl (.c rfl (.c rfl .n)) C48 (fun w hw => span4_any _ _ w)) rfl rfl ?_
  refine lV (yMove rfl) rfl rfl ?_
  refine lV (yMove rfl) rfl rfl ?_
  refine lV (yCall rfl (.c rfl (.c rfl .n)) C48 (fun w hw => span4_any _ _ w)) rfl rfl ?_
  refine lV (yBuild (.c rfl (.c rfl (.c rfl (.c rfl (.c rfl .n))))) (fun w => B58_0_1_2_3_4 w)) rfl rfl ?_
  refine lE rfl ?_
  refine eStoreL 0 rfl rfl rfl rfl K58 rfl (rfl) ?_
  refine lNil ?_
  refine kThen ?_
  refine kRet ?_
  refine fRet rfl (.cA (us := [_, _, _, _, _, _, _, _, _]) rfl A58 (cOwn 0 rfl rfl) .n) (endRet ?_)
  rfl
set_option maxRecDepth 100000 in
set_option maxHeartbeats 2000000 in
theorem plate4_any (w : World) : Calls Try.prog 93 [].toArray w (RetX w (fun _ : Nat => True) (fun n => .agg (pltC (some ⟨n, 0, none⟩, 3) smpP).toArray) (fun _ => []) (fun n => [(n, blk (smpS.map rowS).flatten 58)])) := by
  refine fEnter Try.func93 rfl Try.ntmps93 rfl ?_
  refine kSeq ?_
  refine kRegion rfl ?_
  refine lE rfl ?_
  refine eAlloc Z26 fun n0 => ?_
  refine lNil ?_
  refine kThen ?_
  refine kSeq ?_
  refine kRegion rfl ?_
  refine lV (yAssign rfl) rfl rfl ?_
  refine lNil ?_
  refine kThen ?_
  refine kSeq ?_
  refine kRegion rfl ?_
  refine lV (yCall rfl (.c rfl (.c rfl .n)) C48 (fun w hw => span4_any _ _ w)) rfl rfl ?_
  refine lV (yMove rfl) rfl rfl ?_
  refine lV (yCall rfl (.c rfl (.c rfl (.c rfl (.c rfl (.c rfl (.c rfl (.c rfl (.c rfl .n)))))))) C117 (fun w hw => known4_any _ _ _ _ _ _ _ _ w)) rfl rfl ?_
  refine lV (yMove rfl) rfl rfl ?_
  refine lV (yCall rfl (.c rfl (.c rfl (.c rfl (.c rfl (.c rfl (.c rfl (.c rfl (.c rfl .n)))))))) C117 (fun w hw => known4_any _ _ _ _ _ _ _ _ w)) rfl rfl ?_
  refine lV (yCall rfl (.c rfl (.c rfl .n)) C48 (fun w hw => span4_any _ _ w)) rfl rfl ?_
  refine lV (yCall rfl (.c rfl (.c rfl .n)) C48 (fun w hw => span4_any _ _ w)) rfl rfl ?_
  refine lV (yBuild (.c rfl (.c rfl .n)) (fun w => B58_0_1 w)) rfl rfl ?_
  refine lE rfl ?_
  refine eBuildSlice (.c rfl (.c rfl (.c rfl .n))) (fun w => BS24_3_0_1_2 w) fun n10 => ?_
  refine lV (yBuild (.c rfl (.c rfl .n)) (fun w => B26_0_1 w)) rfl rfl ?_
  refine lE rfl ?_
  refine eStoreL 1 rfl rfl rfl rfl K26 rfl (rfl) ?_
  refine lNil ?_
  refine kThen ?_
  refine kRet ?_
  refine fRet rfl (.cA (us := [_, _, _]) rfl A26 (cOwn 1 rfl rfl) .n) ?_
  exact endX n10 trivial rfl rfl (.c 0 rfl .n)
set_option maxRecDepth 100000 in
set_option maxHeartbeats 2000000 in
theorem measure4_any (w : World) : Calls Try.prog 94 [].toArray w (RetX w (fun _ : Nat × Nat => True) (fun n => .agg (Scr.measC ⟨some ⟨n.1, 0, none⟩, 4, some ⟨n.2, 0, none⟩, 4⟩ Scr.sam).toArray) (fun _ => [])
    (fun n => [(n.1, blk (Scr.sam.errs.map Scr.rowE).flatten 23), (n.2, blk (Scr.sam.sets.map Scr.rowS).flatten 78)])) := by
  refine fEnter Try.func94 rfl Try.ntmps94 rfl ?_
  refine kSeq ?_
  refine kRegion rfl ?_
  refine lE rfl ?_
  refine eAlloc Z75 fun n0 => ?_
  refine lNil ?_
  refine kThen ?_
  refine kSeq ?_
  refine kRegion rfl ?_
  refine lV (yCall rfl (.c rfl (.c rfl .n)) C48 (fun w hw => span4_any _ _ w)) rfl rfl ?_
  refine lV (yCall rfl (.c rfl (.c rfl .n)) C48 (fun w hw => span4_any _ _ w)) rfl rfl ?_
  refine lV (yCall rfl (.c rfl (.c rfl .n)) C48 (fun w hw => span4_any _ _ w)) rfl rfl ?_
  refine lV (yCall rfl (.c rfl (.c rfl .n)) C48 (fun w hw => span4_any _ _ w)) rfl rfl ?_
  refine lE rfl ?_
  refine eBuildSlice (.c rfl (.c rfl (.c rfl (.c rfl .n)))) (fun w => BS70_4_0_1_2_3 w) fun n6 => ?_
  refine lV (yCall rfl (.c rfl (.c rfl .n)) C48 (fun w hw => span4_any _ _ w)) rfl rfl ?_
  refine lV (yBuild (.c rfl (.c rfl .n)) (fun w => B72_0_1 w)) rfl rfl ?_
  refine lE rfl ?_
  refine eAlloc Z72 fun n1 => ?_
  refine lE rfl ?_
  refine eStoreL 0 rfl rfl rfl rfl K72 rfl (rfl) ?_
  refine lNil ?_
  refine kThen ?_
  refine kSeq ?_
  refine kDrawE [(0, none), (1, none)] [] [0, 1, 2, 3, 4, 5] 3 hMix (by kernel_rfl) ?_
  refine .run rfl (yLoadA (vs := [_, _, _]) rfl A72 (cOwn 0 rfl rfl)) rfl rfl ?_
  refine .run rfl (yCall rfl (.c rfl (.c rfl .n)) C48 (fun w hw => span4_any _ _ w)) rfl rfl ?_
  refine .run rfl (yBuild (.c rfl (.c rfl .n)) (fun w => B78_0_1 w)) rfl rfl ?_
  refine .run rfl (yBuild (.c rfl (.c rfl (.c rfl .n))) (fun w => B78_0_1_2 w)) rfl rfl ?_
  refine .run rfl (yBuild (.c rfl (.c rfl .n)) (fun w => B78_0_1 w)) rfl rfl ?_
  refine .run rfl (yBuild (.c rfl (.c rfl (.c rfl .n))) (fun w => B78_0_1_2 w)) rfl rfl ?_
  refine .done ?_
  refine effStep 6 [] (by kernel_rfl) closedSt (hLeft [0, 1] (by kernel_rfl) (.c (fun _ _ hs => hs.ef) (.c (fun _ _ hs => hs.ef) .n))) ?_
  refine .c ?_ .n
  refine effOne rfl (gNone rfl (fBuildSlice (.c rfl (.c rfl (.c rfl (.c rfl .n)))) (fun w => BS73_4_0_1_2_3 w))) ?_
  refine effStep 7 [] (by kernel_rfl) (closedEx fun n15 => closedSt) (hLeft [0, 1] (by kernel_rfl) (.c (fun _ _ ⟨n15, hs⟩ => hs.ef.sub (.c 1 rfl (.c 1 rfl (.c 1 rfl .n)))) (.c (fun _ _ ⟨n15, hs⟩ => hs.ef.sub (.c 1 rfl (.c 1 rfl (.c 1 rfl .n)))) .n))) ?_
  refine .c ?_ .n
  refine effOne rfl (opEx fun n15 => (gNone rfl (fV (yBuild (.c rfl (.c rfl (.c rfl (.c rfl .n)))) (fun w => B75_0_1_2_3 w)) rfl))) ?_
  refine effStep 8 [] (by kernel_rfl) (closedEx fun n15 => closedSt) (hLeft [] (by kernel_rfl) .n) ?_
  refine .c ?_ .n
  refine effOne rfl (opEx fun n15 => (gNone rfl (fStoreL 3 rfl rfl rfl rfl K75 rfl (rfl)))) ?_
  refine effDone (closedEx fun n15 => closedSt) (hLeft [] (by kernel_rfl) .n) (by kernel_rfl) ?_
  refine trEx fun n15 => ?_
  refine kThen ?_
  refine kRet ?_
  refine fRet rfl (.cA (us := [_, _, _, _, _, _, _]) rfl A75 (cOwn 3 rfl rfl) .n) ?_
  exact endX (n6, n15) trivial rfl rfl (.c 2 rfl (.c 0 rfl .n))
theorem sam_in4 {w : World} {e s : Nat} (h1 : w.heap[e]? = some (blk (Scr.sam.errs.map Scr.rowE).flatten 23)) (h2 : w.heap[s]? = some (blk (Scr.sam.sets.map Scr.rowS).flatten 78)) : Scr.InM w ⟨some ⟨e, 0, none⟩, 4, some ⟨s, 0, none⟩, 4⟩ Scr.sam :=
  ⟨sleRows (f := Scr.rowE) (fun _ => rfl) (0, 0) Scr.sam.errs rfl h1, sleRows (f := Scr.rowS) (fun _ => rfl) (0, 0, false) Scr.sam.sets rfl h2⟩
set_option maxRecDepth 100000 in
set_option maxHeartbeats 2000000 in
theorem alive4_any (w : World) : Calls Try.prog 46 [].toArray w (Ret w (.bool true)) := by
  refine fEnter Try.func46 rfl Try.ntmps46 rfl ?_
  refine kSeq ?_
  refine kRegion rfl ?_
  refine lV (yAssign rfl) rfl rfl ?_
  refine lNil ?_
  refine kThen ?_
  refine kSeq ?_
  refine kRegion rfl ?_
  refine lE rfl ?_
  refine eCallX rfl .n C93 (fun w hw => plate4_any w) fun na _ => ?_
  refine lV (yCall rfl (.c rfl .n) C15 (fun w hw => scale_any (some ⟨na, 0, none⟩, 3) smpP w (inSmp (hw.blkAt 0 rfl)))) rfl rfl ?_
  refine same (t := 7) (u := outC ((599, 601), 0)) rfl (by rw [ex1]) ?_
  refine lV (yMove rfl) rfl rfl ?_
  refine lV (yExtract rfl rfl) rfl rfl ?_
  refine lV (yExtract rfl rfl) rfl rfl ?_
  refine lE rfl ?_
  refine eAlloc Z23 fun n1 => ?_
  refine lE rfl ?_
  refine eStoreL 0 rfl rfl rfl rfl K23 rfl (rfl) ?_
  refine lV (yAssign rfl) rfl rfl ?_
  refine lNil ?_
  refine kThen ?_
  refine kSeq ?_
  refine forgetP [(n1, _)] (.c 0 rfl .n) ?_
  refine kRegion rfl ?_
  refine lE rfl ?_
  refine eCallX rfl .n C94 (fun w hw => measure4_any w) fun ⟨e, l⟩ _ => ?_
  refine lV (yCall rfl (.c rfl (.c rfl .n)) C50 (fun w hw => Scr.place_any ⟨some ⟨e, 0, none⟩, 4, some ⟨l, 0, none⟩, 4⟩ Scr.sam 1 w (sam_in4 (hw.blkAt 0 rfl) (hw.blkAt 1 rfl)))) rfl rfl ?_
  refine same (t := 12) (u := outC ((1201, 1208), 0)) rfl (by rw [Scr.v_place1]) ?_
  refine lV (yMove rfl) rfl rfl ?_
  refine lV (yExtract rfl rfl) rfl rfl ?_
  refine lV (yExtract rfl rfl) rfl rfl ?_
  refine lE rfl ?_
  refine eAlloc Z23 fun n3 => ?_
  refine lE rfl ?_
  refine eStoreL 0 rfl rfl rfl rfl K23 rfl (rfl) ?_
  refine lV (yAssign rfl) rfl rfl ?_
  refine lNil ?_
  refine kThen ?_
  refine kSeq ?_
  refine kDrawE [(0, none), (1, none), (8, none), (9, none)] [] [0, 1, 2, 3, 4, 5, 6, 7, 8, 9, 10, 11, 12, 13, 14, 15, 16] 0 hMix (by kernel_rfl) ?_
  refine .run rfl (yLoadA (vs := [_, _]) rfl A23 (cOwn 3 rfl rfl)) rfl rfl ?_
  refine .run rfl (yCall rfl (.c rfl (.c rfl .n)) C48 (fun w hw => span4_any _ _ w)) rfl rfl ?_
  refine .run rfl (yvTrue (yEqAgg rfl rfl G23 (fun w => Q23 w)) (⟨rfl, rfl⟩)) rfl rfl ?_
  refine .run rfl (yMove rfl) rfl rfl ?_
  refine .runG rfl (yMove rfl) rfl rfl rfl rfl ?_
  refine .runG rfl (yvTrue (yEql rfl rfl) (rfl)) rfl rfl rfl rfl ?_
  refine .run rfl (yPickT rfl rfl) rfl rfl ?_
  refine .run rfl (yMove rfl) rfl rfl ?_
  refine .runG rfl (yLoadA (vs := [_, _]) rfl A23 (cOwn 0 rfl rfl)) rfl rfl rfl rfl ?_
  refine .runG rfl (yCall rfl (.c rfl (.c rfl .n)) C48 (fun w hw => span4_any _ _ w)) rfl rfl rfl rfl ?_
  refine .runG rfl (yvTrue (yEqAgg rfl rfl G23 (fun w => Q23 w)) (⟨rfl, rfl⟩)) rfl rfl rfl rfl ?_
  refine .run rfl (yPickT rfl rfl) rfl rfl ?_
  refine .run rfl (yMove rfl) rfl rfl ?_
  refine .runG rfl (yMove rfl) rfl rfl rfl rfl ?_
  refine .runG rfl (yvTrue (yEql rfl rfl) (rfl)) rfl rfl rfl rfl ?_
  refine .run rfl (yPickT rfl rfl) rfl rfl ?_
  refine .run rfl (yAssign rfl) rfl rfl ?_
  refine .done ?_
  refine effDone closedSt (hLeft [0, 1, 8, 9] (by kernel_rfl) (.c (fun _ _ hs => hs.ef) (.c (fun _ _ hs => hs.ef) (.c (fun _ _ hs => hs.ef) (.c (fun _ _ hs => hs.ef) .n))))) (by kernel_rfl) ?_
  refine kThen ?_
  refine kRet ?_
  refine fRet rfl (.t rfl .n) (endRet ?_)
  rfl
abbrev drawF4 (nb nc : Nat) : Value := .func (.func 95) [].toArray [.pointer (some ⟨nb, 0, none⟩), .pointer (some ⟨nc, 0, none⟩)].toArray
set_option maxRecDepth 100000 in
theorem draws4_any (a : Option Addr) (c n : Nat) (w : World) : Calls Try.prog 47 [.slice a n c].toArray w
    (RetX w (fun _ : Nat × Nat => True) (fun x => drawF4 x.1 x.2) (fun _ => []) (fun x => [(x.1, blk [i64 0] 3), (x.2, blk [.slice a n c] 43)])) := by
  refine fEnter Try.func47 rfl Try.ntmps47 rfl ?_
  refine kSeq ?_
  refine kRegion rfl ?_
  refine lE rfl ?_
  refine eBox1 rfl rfl fun n1 => ?_
  refine lV (yAssign rfl) rfl rfl ?_
  refine lNil ?_
  refine kThen ?_
  refine kSeq ?_
  refine kRegion rfl ?_
  refine lE rfl ?_
  refine eAlloc Z3 fun n3 => ?_
  refine lE rfl ?_
  refine eStoreL 0 rfl rfl rfl rfl K3 rfl (rfl) ?_
  refine lNil ?_
  refine kThen ?_
  refine kSeq ?_
  refine kRegion rfl ?_
  refine lV (yMakeFunc .n (.c rfl (.c rfl .n))) rfl rfl ?_
  refine lV (yAssign rfl) rfl rfl ?_
  refine lNil ?_
  refine kThen ?_
  refine kRet ?_
  refine fRet rfl (.t rfl .n) ?_
  exact endX (n3, n1) trivial rfl rfl .r
set_option maxRecDepth 100000 in
theorem draw4_any (nb nc : Nat) (a : Option Addr) (c : Nat) (l : List Nat) (k : Nat) (n : Int) (w : World) (hb : w.heap[nb]? = some (blk [i64 (k : Nat)] 3)) (hd : DrawIn w nb nc a c l) (ho : DrawOk nb nc a l) (hk : k < 100000) (hn : 0 < n) :
    Calls Try.prog 95 [i64 n, .pointer (some ⟨nb, 0, none⟩), .pointer (some ⟨nc, 0, none⟩)].toArray w (Wr w nb (blk [i64 ((k + 1 : Nat) : Int)] 3) (i64 (drawQ l (k + 1) n))) := by
  have hc := hd.box
  have hpos := ho.pos
  have hm : (k + 1) % l.length < l.length := Nat.mod_lt _ hpos
  have hq := ho.q _ (getD_mem hm 0)
  refine fEnterM (Eff.two hb hc ho.ne) Try.func95 rfl Try.ntmps95 rfl ?_
  refine kSeq ?_
  refine kRegion rfl ?_
  refine lV (yAssign rfl) rfl rfl ?_
  refine lNil ?_
  refine kThen ?_
  refine kSeq ?_
  refine kRegion rfl ?_
  refine lV (yLoad1 rfl O3 (cOwn 0 rfl rfl)) rfl rfl ?_
  refine lV (yAdd rfl rfl (by omega)) rfl rfl ?_
  refine same (t := 6) (u := i64 ((k + 1 : Nat) : Int)) rfl (by congr 1) ?_
  refine lE rfl ?_
  refine eStoreM 0 rfl rfl rfl rfl K3 rfl (rfl) ?_
  refine lNil ?_
  refine kThen ?_
  refine kSeq ?_
  refine kDrawE [(0, none), (1, none), (2, none), (5, none), (6, none), (8, none)] [] [0, 1, 2, 3, 4, 5, 6, 7, 8, 9, 10, 11, 12, 13] 0 hMix (by kernel_rfl) ?_
  refine .run rfl (yLoad1 rfl O43 (cOwn 1 rfl rfl)) rfl rfl ?_
  refine .run rfl (yLoad1 rfl O3 (cOwn 0 rfl rfl)) rfl rfl ?_
  refine .run rfl (yLoad1 rfl O43 (cOwn 1 rfl rfl)) rfl rfl ?_
  refine .run rfl (yLen rfl S43) rfl rfl ?_
  refine .run rfl (yvSame (u := i64 (((k + 1) % l.length : Nat) : Int)) (yRem rfl rfl (by omega) (by omega)) (by congr 1)) rfl rfl ?_
  refine .run rfl (yIndexS  rfl rfl S43 (hd.s.r (mne ho.na ho.nc)) (hm)) rfl rfl ?_
  refine .run rfl (yLoad1 rfl O60 (cSl0 (hd.s.r (mne ho.na ho.nc)) (hm) rfl)) rfl rfl ?_
  refine .run rfl (yConvInt rfl U60 U3 (conv_ok (by omega))) rfl rfl ?_
  refine .run rfl (yLoad1 rfl O3 (cOwn 0 rfl rfl)) rfl rfl ?_
  refine .run rfl (yMul rfl rfl (by omega)) rfl rfl ?_
  refine .run rfl (yvSame (u := i64 ((l.getD ((k + 1) % l.length) 0 + 43 * (k + 1) : Nat) : Int)) (yAdd rfl rfl (by omega)) (by congr 1)) rfl rfl ?_
  refine .run rfl (yMove rfl) rfl rfl ?_
  refine .run rfl (yRem rfl rfl (by omega) (by omega)) rfl rfl ?_
  refine .run rfl (yAssign rfl) rfl rfl ?_
  refine .done ?_
  refine effDone closedSt (hLeft [0, 1, 2, 5, 6, 8] (by kernel_rfl) (.c (fun _ _ hs => hs.ef) (.c (fun _ _ hs => hs.ef) (.c (fun _ _ hs => hs.ef) (.c (fun _ _ hs => hs.ef) (.c (fun _ _ hs => hs.ef) (.c (fun _ _ hs => hs.ef) .n))))))) (by kernel_rfl) ?_
  refine kThen ?_
  refine kRet ?_
  refine fRet rfl (.t rfl .n) ?_
  exact endW2 rfl rfl hc
theorem four_mem {nb nc nm nf : Nat} {o1 o2 o3 o4 : Obj} {W : World} (h1 : W.heap[nb]? = some o1) (h2 : W.heap[nc]? = some o2) (h3 : W.heap[nm]? = some o3) (h4 : W.heap[nf]? = some o4) (hnd : [nb, nc, nm, nf].Nodup) : Eff W [(nb, o1), (nc, o2), (nm, o3), (nf, o4)] [] W := Eff.many (by
  intro p hp
  simp only [List.mem_cons, List.not_mem_nil, or_false] at hp
  rcases hp with rfl | rfl | rfl | rfl
  · exact h1
  · exact h2
  · exact h3
  · exact h4) hnd
theorem tup2 {v : Value} {b c : Bool} (h : b = c) : packV [v, .bool b] = .tuple [v, .bool c].toArray := by rw [h]; rfl
theorem three_mem {nc nm nf : Nat} {o2 o3 o4 : Obj} {W : World} (h2 : W.heap[nc]? = some o2) (h3 : W.heap[nm]? = some o3) (h4 : W.heap[nf]? = some o4) : ∀ p ∈ ([(nc, o2), (nm, o3), (nf, o4)] : Heap), W.heap[p.1]? = some p.2 := by
  intro p hp
  simp only [List.mem_cons, List.not_mem_nil, or_false] at hp
  rcases hp with rfl | rfl | rfl
  · exact h2
  · exact h3
  · exact h4
theorem mne4 {nb nc nm nf b : Nat} {o1 o2 o3 o4 : Obj} (h1 : nb ≠ b) (h2 : nc ≠ b) (h3 : nm ≠ b) (h4 : nf ≠ b) : ∀ p ∈ ([(nb, o1), (nc, o2), (nm, o3), (nf, o4)] : Heap), p.1 ≠ b := by
  intro p hp
  simp only [List.mem_cons, List.not_mem_nil, or_false] at hp
  rcases hp with rfl | rfl | rfl | rfl
  · exact h1
  · exact h2
  · exact h3
  · exact h4
/-- The reading of which this can be the travel. -/
abbrev readQ (l : List Nat) (k : Nat) (e eye : Int × Int) (t : Int) : Int := t - e.1 - drawQ l (k + 1) (e.2 - e.1 + 1) - eye.1 - drawQ l (k + 1 + 1) (eye.2 - eye.1 + 1)
set_option maxRecDepth 100000 in
set_option maxHeartbeats 2000000 in
theorem reading_any (nb nc nm nf : Nat) (a : Option Addr) (c : Nat) (l : List Nat) (k : Nat) (t : Int) (ea : Option Addr) (ec : Nat) (errs : List (Int × Int)) (eye : Int × Int) (im u1 u2 : Int) (sv : Value) (w : World)
    (hb : w.heap[nb]? = some (blk [i64 (k : Nat)] 3)) (hd : DrawIn w nb nc a c l) (ho : DrawOk nb nc a l) (hm : w.heap[nm]? = some (blk [.slice ea errs.length ec, i64 eye.1, i64 eye.2, i64 im, i64 u1, i64 u2, sv] 75)) (hf : w.heap[nf]? = some (blk [drawF4 nb nc] 49))
    (hE : SlE w ea errs.length 2 (fun i => Scr.rowE (errs.getD i (0, 0)))) (hnd : [nb, nc, nm, nf].Nodup) (h1 : nb ≠ sblk ea) (h2 : nc ≠ sblk ea) (h3 : nm ≠ sblk ea) (h4 : nf ≠ sblk ea) (h5 : nm ≠ sblk a) (h6 : nf ≠ sblk a)
    (hk : k < 90000) (ht : 0 ≤ t ∧ t < 20000) (hn : errs.length = 20) (hbd : ∀ x ∈ errs, -4 ≤ x.1 ∧ x.1 ≤ x.2 ∧ x.2 ≤ 7) (hy : -3 ≤ eye.1 ∧ eye.1 ≤ 0 ∧ 0 ≤ eye.2 ∧ eye.2 ≤ 3) :
    Calls Try.prog 49 [i64 t, .pointer (some ⟨nm, 0, none⟩), .pointer (some ⟨nf, 0, none⟩)].toArray w (Wr w nb (blk [i64 ((k + 1 + 1 : Nat) : Int)] 3)
      (.tuple [i64 (readQ l k (errs.getD (t / 1000).toNat (0, 0)) eye t), .bool (decide (0 ≤ readQ l k (errs.getD (t / 1000).toNat (0, 0)) eye t ∧ readQ l k (errs.getD (t / 1000).toNat (0, 0)) eye t / 1000 = t / 1000))].toArray)) := by
  have hc := hd.box
  have hlt : (t / 1000).toNat < errs.length := by omega
  have hbe := hbd _ (getD_mem hlt (0, 0))
  obtain ⟨e, he⟩ : ∃ e, e = errs.getD (t / 1000).toNat (0, 0) := ⟨_, rfl⟩
  rw [← he] at hbe ⊢
  have b1 := drawQ_bd l (k + 1) (n := e.2 - e.1 + 1) (by omega)
  have b2 := drawQ_bd l (k + 1 + 1) (n := eye.2 - eye.1 + 1) (by omega)
  refine fEnterM (four_mem hb hc hm hf hnd) Try.func49 rfl Try.ntmps49 rfl ?_
  refine kSeq ?_
  refine kRegion rfl ?_
  refine lV (yAssign rfl) rfl rfl ?_
  refine lV (yAssign rfl) rfl rfl ?_
  refine lNil ?_
  refine kThen ?_
  refine kSeq ?_
  refine kRegion rfl ?_
  refine lV (yFieldAddr rfl F75_0) rfl rfl ?_
  refine lV (yFieldAddr rfl F72_0) rfl rfl ?_
  refine lV (yLoad1 rfl O70 (cOwn 2 rfl rfl)) rfl rfl ?_
  refine lV (yMove rfl) rfl rfl ?_
  refine lV (yQuo rfl rfl (by omega) (by omega) (by omega)) rfl rfl ?_
  refine same (t := 12) (u := i64 (((t / 1000).toNat : Nat) : Int)) rfl (by congr 1; omega) ?_
  refine lV (yIndexS  rfl rfl S70 (hE.r (mne4 h1 h2 h3 h4)) (hlt)) rfl rfl ?_
  refine lV (yLoadA (vs := [_, _]) rfl A23 (cSl0 (hE.r (mne4 h1 h2 h3 h4)) (hlt) rfl)) rfl rfl ?_
  refine same (t := 14) (u := .agg (Scr.rowE e).toArray) rfl (by rw [he]) ?_
  refine lE rfl ?_
  refine eAlloc Z23 fun n6 => ?_
  refine lE rfl ?_
  refine eStoreL 0 rfl rfl rfl rfl K23 rfl (rfl) ?_
  refine lNil ?_
  refine kThen ?_
  refine kSeq ?_
  refine kDrawE [] [(2, (fun w => w.heap[n6]? = some (blk (Scr.rowE e) 23))), (4, (fun w => w.heap[nf]? = some (blk [drawF4 nb nc] 49))), (6, (fun w => w.heap[n6]? = some (blk (Scr.rowE e) 23))), (8, (fun w => w.heap[n6]? = some (blk (Scr.rowE e) 23))), (16, (fun w => w.heap[nm]? = some (blk [.slice ea errs.length ec, i64 eye.1, i64 eye.2, i64 im, i64 u1, i64 u2, sv] 75))), (18, (fun w => w.heap[nf]? = some (blk [drawF4 nb nc] 49))), (22, (fun w => w.heap[nm]? = some (blk [.slice ea errs.length ec, i64 eye.1, i64 eye.2, i64 im, i64 u1, i64 u2, sv] 75))), (26, (fun w => w.heap[nm]? = some (blk [.slice ea errs.length ec, i64 eye.1, i64 eye.2, i64 im, i64 u1, i64 u2, sv] 75)))] [0, 1, 2, 3, 4, 5, 6, 7, 8, 9, 10, 13, 14, 15, 16, 18, 19, 20, 21, 22, 23, 24, 25, 26, 27, 28] 6 hMix (by kernel_rfl) ?_
  refine .run rfl (yMove rfl) rfl rfl ?_
  refine .run rfl (yFieldAddr rfl F23_0) rfl rfl ?_
  refine .run rfl (yLoad1 rfl O3 (cHeap rfl)) rfl rfl ?_
  refine .run rfl (ySub rfl rfl (by omega)) rfl rfl ?_
  refine .run rfl (yLoad1 rfl O49 (cHeap rfl)) rfl rfl ?_
  refine .run rfl (yFieldAddr rfl F23_1) rfl rfl ?_
  refine .run rfl (yLoad1 rfl O3 (cHeap rfl)) rfl rfl ?_
  refine .run rfl (yFieldAddr rfl F23_0) rfl rfl ?_
  refine .run rfl (yLoad1 rfl O3 (cHeap rfl)) rfl rfl ?_
  refine .run rfl (ySub rfl rfl (by omega)) rfl rfl ?_
  refine .run rfl (yAdd rfl rfl (by omega)) rfl rfl ?_
  refine .run rfl (yFieldAddr rfl F75_0) rfl rfl ?_
  refine .run rfl (yFieldAddr rfl F72_1) rfl rfl ?_
  refine .run rfl (yFieldAddr rfl F23_0) rfl rfl ?_
  refine .run rfl (yLoad1 rfl O3 (cHeap rfl)) rfl rfl ?_
  refine .run rfl (yLoad1 rfl O49 (cHeap rfl)) rfl rfl ?_
  refine .run rfl (yFieldAddr rfl F75_0) rfl rfl ?_
  refine .run rfl (yFieldAddr rfl F72_1) rfl rfl ?_
  refine .run rfl (yFieldAddr rfl F23_1) rfl rfl ?_
  refine .run rfl (yLoad1 rfl O3 (cHeap rfl)) rfl rfl ?_
  refine .run rfl (yFieldAddr rfl F75_0) rfl rfl ?_
  refine .run rfl (yFieldAddr rfl F72_1) rfl rfl ?_
  refine .run rfl (yFieldAddr rfl F23_0) rfl rfl ?_
  refine .run rfl (yLoad1 rfl O3 (cHeap rfl)) rfl rfl ?_
  refine .run rfl (ySub rfl rfl (by omega)) rfl rfl ?_
  refine .run rfl (yAdd rfl rfl (by omega)) rfl rfl ?_
  refine .done ?_
  refine effStep 11 [] (by kernel_rfl) closedSt (hLeft [2, 4, 6, 8, 16, 18, 22, 26] (by kernel_rfl) (.c (fun _ _ hs => hs.ef.blkAt 4 rfl) (.c (fun _ _ hs => hs.ef.blkAt 3 rfl) (.c (fun _ _ hs => hs.ef.blkAt 4 rfl) (.c (fun _ _ hs => hs.ef.blkAt 4 rfl) (.c (fun _ _ hs => hs.ef.blkAt 2 rfl) (.c (fun _ _ hs => hs.ef.blkAt 3 rfl) (.c (fun _ _ hs => hs.ef.blkAt 2 rfl) (.c (fun _ _ hs => hs.ef.blkAt 2 rfl) .n))))))))) ?_
  refine .c ?_ .n
  refine effOne rfl (gNone rfl (eCallWM 0 rfl rfl (.c rfl .n) C95 (fun w hw hb => draw4_any nb nc a c l k (e.2 - e.1 + 1) w hb ⟨hw.blkAt 1 rfl, hd.s.eff hw (mne4 ho.na ho.nc h5 h6)⟩ ho (by omega) (by omega)) trSelf)) ?_
  refine effStep 12 [29] (by kernel_rfl) closedSt (hLeft [2, 16, 18, 22, 26] (by kernel_rfl) (.c (fun _ _ hs => hs.ef.blkAt 4 rfl) (.c (fun _ _ hs => hs.ef.blkAt 2 rfl) (.c (fun _ _ hs => hs.ef.blkAt 3 rfl) (.c (fun _ _ hs => hs.ef.blkAt 2 rfl) (.c (fun _ _ hs => hs.ef.blkAt 2 rfl) .n)))))) ?_
  refine (.c ?_ (.c ?_ .n))
  · refine effOne rfl (gNone rfl (fV (ySub rfl rfl (by omega)) rfl)) ?_
    refine effStep 17 [29] (by kernel_rfl) closedSt (hLeft [16, 18, 22, 26] (by kernel_rfl) (.c (fun _ _ hs => hs.ef.blkAt 2 rfl) (.c (fun _ _ hs => hs.ef.blkAt 3 rfl) (.c (fun _ _ hs => hs.ef.blkAt 2 rfl) (.c (fun _ _ hs => hs.ef.blkAt 2 rfl) .n))))) ?_
    refine (.c ?_ (.c ?_ .n))
    · refine effOne rfl (gNone rfl (fV (ySub rfl rfl (by omega)) rfl)) ?_
      refine effStep 29 [] (by kernel_rfl) closedSt (hLeft [18, 22, 26] (by kernel_rfl) (.c (fun _ _ hs => hs.ef.blkAt 3 rfl) (.c (fun _ _ hs => hs.ef.blkAt 2 rfl) (.c (fun _ _ hs => hs.ef.blkAt 2 rfl) .n)))) ?_
      refine .c ?_ .n
      refine effOne rfl (gNone rfl (eCallWM 0 rfl rfl (.c rfl .n) C95 (fun w hw hb => draw4_any nb nc a c l (k + 1) (eye.2 - eye.1 + 1) w hb ⟨hw.blkAt 1 rfl, hd.s.eff hw (mne4 ho.na ho.nc h5 h6)⟩ ho (by omega) (by omega)) trSelf)) ?_
      refine effStep 30 [] (by kernel_rfl) closedSt (hLeft [] (by kernel_rfl) .n) ?_
      refine .c ?_ .n
      refine effOne rfl (gNone rfl (fV (ySub rfl rfl (by omega)) rfl)) ?_
      refine effStep 31 [] (by kernel_rfl) closedSt (hLeft [] (by kernel_rfl) .n) ?_
      refine .c ?_ .n
      refine effOne rfl (gNone rfl (fV (yAssign rfl) rfl)) ?_
      refine effDone closedSt (hLeft [] (by kernel_rfl) .n) (by kernel_rfl) ?_
      refine kThen ?_
      refine kSeq ?_
      refine kRegion rfl ?_
      refine lV (yMove rfl) rfl rfl ?_
      refine lV (yMove rfl) rfl rfl ?_
      refine lV (yGeq rfl rfl) rfl rfl ?_
      refine lV (yMove rfl) rfl rfl ?_
      refine split (t := 49) rfl (fun h49 => ?_) (fun h49 => ?_)
      · refine lGY rfl rfl rfl (oV (yMove rfl) rfl ?_)
        refine lGY rfl rfl rfl (oV (yQuo rfl rfl (by omega) (by omega) (by omega)) rfl ?_)
        refine lGY rfl rfl rfl (oV (yMove rfl) rfl ?_)
        refine lGY rfl rfl rfl (oV (yQuo rfl rfl (by omega) (by omega) (by omega)) rfl ?_)
        refine lGY rfl rfl rfl (oV (yEql rfl rfl) rfl ?_)
        refine lV (yPickT rfl rfl) rfl rfl ?_
        refine lV (yAssign rfl) rfl rfl ?_
        refine lV (yAssign rfl) rfl rfl ?_
        refine lNil ?_
        refine kThen ?_
        refine kRet ?_
        refine fRet rfl (.t rfl (.t rfl .n)) ?_
        exact endWk (tup2 (decide_eq_decide.2 ⟨fun h => ⟨h49, h⟩, fun h => h.2⟩)) rfl (three_mem hc hm hf)
      · refine lGN rfl rfl rfl rfl rfl ?_
        refine lGN rfl rfl rfl rfl rfl ?_
        refine lGN rfl rfl rfl rfl rfl ?_
        refine lGN rfl rfl rfl rfl rfl ?_
        refine lGN rfl rfl rfl rfl rfl ?_
        refine lV (yPickF rfl rfl) rfl rfl ?_
        refine lV (yAssign rfl) rfl rfl ?_
        refine lV (yAssign rfl) rfl rfl ?_
        refine lNil ?_
        refine kThen ?_
        refine kRet ?_
        refine fRet rfl (.t rfl (.t rfl .n)) ?_
        exact endWk (tup2 (decide_eq_false fun h => h49 h.1).symm) rfl (three_mem hc hm hf)
    · refine effOne rfl (gNone rfl (eCallWM 0 rfl rfl (.c rfl .n) C95 (fun w hw hb => draw4_any nb nc a c l (k + 1) (eye.2 - eye.1 + 1) w hb ⟨hw.blkAt 1 rfl, hd.s.eff hw (mne4 ho.na ho.nc h5 h6)⟩ ho (by omega) (by omega)) trSelf)) ?_
      refine effStep 17 [] (by kernel_rfl) closedSt (hLeft [16] (by kernel_rfl) (.c (fun _ _ hs => hs.ef.blkAt 2 rfl) .n)) ?_
      refine .c ?_ .n
      refine effOne rfl (gNone rfl (fV (ySub rfl rfl (by omega)) rfl)) ?_
      refine effStep 30 [] (by kernel_rfl) closedSt (hLeft [] (by kernel_rfl) .n) ?_
      refine .c ?_ .n
      refine effOne rfl (gNone rfl (fV (ySub rfl rfl (by omega)) rfl)) ?_
      refine effStep 31 [] (by kernel_rfl) closedSt (hLeft [] (by kernel_rfl) .n) ?_
      refine .c ?_ .n
      refine effOne rfl (gNone rfl (fV (yAssign rfl) rfl)) ?_
      refine effDone closedSt (hLeft [] (by kernel_rfl) .n) (by kernel_rfl) ?_
      refine kThen ?_
      refine kSeq ?_
      refine kRegion rfl ?_
      refine lV (yMove rfl) rfl rfl ?_
      refine lV (yMove rfl) rfl rfl ?_
      refine lV (yGeq rfl rfl) rfl rfl ?_
      refine lV (yMove rfl) rfl rfl ?_
      refine split (t := 49) rfl (fun h49 => ?_) (fun h49 => ?_)
      · refine lGY rfl rfl rfl (oV (yMove rfl) rfl ?_)
        refine lGY rfl rfl rfl (oV (yQuo rfl rfl (by omega) (by omega) (by omega)) rfl ?_)
        refine lGY rfl rfl rfl (oV (yMove rfl) rfl ?_)
        refine lGY rfl rfl rfl (oV (yQuo rfl rfl (by omega) (by omega) (by omega)) rfl ?_)
        refine lGY rfl rfl rfl (oV (yEql rfl rfl) rfl ?_)
        refine lV (yPickT rfl rfl) rfl rfl ?_
        refine lV (yAssign rfl) rfl rfl ?_
        refine lV (yAssign rfl) rfl rfl ?_
        refine lNil ?_
        refine kThen ?_
        refine kRet ?_
        refine fRet rfl (.t rfl (.t rfl .n)) ?_
        exact endWk (tup2 (decide_eq_decide.2 ⟨fun h => ⟨h49, h⟩, fun h => h.2⟩)) rfl (three_mem hc hm hf)
      · refine lGN rfl rfl rfl rfl rfl ?_
        refine lGN rfl rfl rfl rfl rfl ?_
        refine lGN rfl rfl rfl rfl rfl ?_
        refine lGN rfl rfl rfl rfl rfl ?_
        refine lGN rfl rfl rfl rfl rfl ?_
        refine lV (yPickF rfl rfl) rfl rfl ?_
        refine lV (yAssign rfl) rfl rfl ?_
        refine lV (yAssign rfl) rfl rfl ?_
        refine lNil ?_
        refine kThen ?_
        refine kRet ?_
        refine fRet rfl (.t rfl (.t rfl .n)) ?_
        exact endWk (tup2 (decide_eq_false fun h => h49 h.1).symm) rfl (three_mem hc hm hf)
  · refine effOne rfl (gNone rfl (eCallWM 0 rfl rfl (.c rfl .n) C95 (fun w hw hb => draw4_any nb nc a c l (k + 1) (eye.2 - eye.1 + 1) w hb ⟨hw.blkAt 1 rfl, hd.s.eff hw (mne4 ho.na ho.nc h5 h6)⟩ ho (by omega) (by omega)) trSelf)) ?_
    refine effStep 12 [] (by kernel_rfl) closedSt (hLeft [2, 16] (by kernel_rfl) (.c (fun _ _ hs => hs.ef.blkAt 4 rfl) (.c (fun _ _ hs => hs.ef.blkAt 2 rfl) .n))) ?_
    refine .c ?_ .n
    refine effOne rfl (gNone rfl (fV (ySub rfl rfl (by omega)) rfl)) ?_
    refine effStep 17 [] (by kernel_rfl) closedSt (hLeft [16] (by kernel_rfl) (.c (fun _ _ hs => hs.ef.blkAt 2 rfl) .n)) ?_
    refine .c ?_ .n
    refine effOne rfl (gNone rfl (fV (ySub rfl rfl (by omega)) rfl)) ?_
    refine effStep 30 [] (by kernel_rfl) closedSt (hLeft [] (by kernel_rfl) .n) ?_
    refine .c ?_ .n
    refine effOne rfl (gNone rfl (fV (ySub rfl rfl (by omega)) rfl)) ?_
    refine effStep 31 [] (by kernel_rfl) closedSt (hLeft [] (by kernel_rfl) .n) ?_
    refine .c ?_ .n
    refine effOne rfl (gNone rfl (fV (yAssign rfl) rfl)) ?_
    refine effDone closedSt (hLeft [] (by kernel_rfl) .n) (by kernel_rfl) ?_
    refine kThen ?_
    refine kSeq ?_
    refine kRegion rfl ?_
    refine lV (yMove rfl) rfl rfl ?_
    refine lV (yMove rfl) rfl rfl ?_
    refine lV (yGeq rfl rfl) rfl rfl ?_
    refine lV (yMove rfl) rfl rfl ?_
    refine split (t := 49) rfl (fun h49 => ?_) (fun h49 => ?_)
    · refine lGY rfl rfl rfl (oV (yMove rfl) rfl ?_)
      refine lGY rfl rfl rfl (oV (yQuo rfl rfl (by omega) (by omega) (by omega)) rfl ?_)
      refine lGY rfl rfl rfl (oV (yMove rfl) rfl ?_)
      refine lGY rfl rfl rfl (oV (yQuo rfl rfl (by omega) (by omega) (by omega)) rfl ?_)
      refine lGY rfl rfl rfl (oV (yEql rfl rfl) rfl ?_)
      refine lV (yPickT rfl rfl) rfl rfl ?_
      refine lV (yAssign rfl) rfl rfl ?_
      refine lV (yAssign rfl) rfl rfl ?_
      refine lNil ?_
      refine kThen ?_
      refine kRet ?_
      refine fRet rfl (.t rfl (.t rfl .n)) ?_
      exact endWk (tup2 (decide_eq_decide.2 ⟨fun h => ⟨h49, h⟩, fun h => h.2⟩)) rfl (three_mem hc hm hf)
    · refine lGN rfl rfl rfl rfl rfl ?_
      refine lGN rfl rfl rfl rfl rfl ?_
      refine lGN rfl rfl rfl rfl rfl ?_
      refine lGN rfl rfl rfl rfl rfl ?_
      refine lGN rfl rfl rfl rfl rfl ?_
      refine lV (yPickF rfl rfl) rfl rfl ?_
      refine lV (yAssign rfl) rfl rfl ?_
      refine lV (yAssign rfl) rfl rfl ?_
      refine lNil ?_
      refine kThen ?_
      refine kRet ?_
      refine fRet rfl (.t rfl (.t rfl .n)) ?_
      exact endWk (tup2 (decide_eq_false fun h => h49 h.1).symm) rfl (three_mem hc hm hf)
end Go.Proofs.Ytlcdohhhhlhpmaa
