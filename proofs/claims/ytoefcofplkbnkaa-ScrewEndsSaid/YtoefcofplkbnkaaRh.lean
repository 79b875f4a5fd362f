/-
  Walk: ScrewEnds.
-/
import Derived.Test.YtoefcofplkbnkaaRd
import Derived.Test.YtoefcofplkbnkaaLh
namespace Go.Proofs.Ytoefcofplkbnkaa
open ZW

abbrev outV (lo hi e : Int) : Value := .tuple [.agg [i64 lo, i64 hi].toArray, i64 e].toArray
set_option maxRecDepth 100000 in
theorem with_any (nb na : Nat) (y : Loc) (m : Meas) (a n : Int) (w : World) (hm : InM w y m) (hb : w.heap[nb]? = some (blk (measC y m) 29)) (ha : w.heap[na]? = some (blk [i64 a] 3)) :
    Calls Try.prog 29 [i64 n, .pointer (some ⟨nb, 0, none⟩), .pointer (some ⟨na, 0, none⟩)].toArray w (Ret w (outC (placeE (withS m n) a))) := by
  refine fEnter Try.func29 rfl Try.ntmps29 rfl ?_
  refine kSeq ?_
  refine kRegion rfl ?_
  refine lE rfl ?_
  refine eAlloc Z24 fun n4 => ?_
  refine lV (yAssign rfl) rfl rfl ?_
  refine lNil ?_
  refine kThen ?_
  refine kSeq ?_
  refine kRegion rfl ?_
  refine lV (yLoadA (vs := [_, _, _, _, _, _, _]) rfl A29 (cOldB (hb) rfl)) rfl rfl ?_
  refine lE rfl ?_
  refine eAlloc Z29 fun n6 => ?_
  refine lE rfl ?_
  refine eStoreL 0 rfl rfl rfl rfl K29 rfl (rfl) ?_
  refine lNil ?_
  refine kThen ?_
  refine kSeq ?_
  refine kRegion rfl ?_
  refine lV (yMove rfl) rfl rfl ?_
  refine lV (yMove rfl) rfl rfl ?_
  refine lV (yCall rfl (.c rfl (.c rfl .n)) C30 (fun w hw => spanL_any n n w)) rfl rfl ?_
  refine lV (yFieldAddr rfl F29_2) rfl rfl ?_
  refine lE rfl ?_
  refine eStoreL 0 rfl rfl rfl rfl K24 rfl (rfl) ?_
  refine lNil ?_
  refine kThen ?_
  refine kSeq ?_
  refine kRegion rfl ?_
  refine lV (yLoadA (vs := [_, _, _, _, _, _, _]) rfl A29 (cOwn 0 rfl rfl)) rfl rfl ?_
  refine lV (yLoad1 rfl O3 (cOldB (ha) rfl)) rfl rfl ?_
  refine lV (yCall rfl (.c rfl (.c rfl .n)) C20 (fun w hw => place_any y (withS m n) a w ⟨(hm.eff hw).e, (hm.eff hw).s⟩)) rfl rfl ?_
  refine lV (yExtract rfl rfl) rfl rfl ?_
  refine lV (yExtract rfl rfl) rfl rfl ?_
  refine lE rfl ?_
  refine eStoreL 1 rfl rfl rfl rfl K24 rfl (rfl) ?_
  refine lV (yAssign rfl) rfl rfl ?_
  refine lNil ?_
  refine kThen ?_
  refine kRet ?_
  refine fRet rfl (.cA (us := [_, _]) rfl A24 (cOwn 1 rfl rfl) (.t rfl .n)) (endRet ?_)
  rfl
theorem two_at {x y : Int} {i : Nat} (h : i < 2) : sub [i64 x, i64 y] (0 + ((i : Nat) : Int).toNat * 1) 1 = some [i64 (if i = 0 then x else y)] := by
  have : i = 0 ∨ i = 1 := by omega
  rcases this with rfl | rfl <;> rfl
set_option maxHeartbeats 2000000 in
set_option maxRecDepth 100000 in
theorem ends_any (y : Loc) (m : Meas) (a : Int) (b : Nat) (w : World) (hm : InM w y m) (hb : b < 65536) : Calls Try.prog 5 [.agg (measC y m).toArray, i64 a, .int .u16 (b : Nat)].toArray w (Ret w (.bool true)) := by
  refine fEnter Try.func5 rfl Try.ntmps5 rfl ?_
  refine kSeq ?_
  refine kRegion rfl ?_
  refine lE rfl ?_
  refine eBoxA rfl fun n3 => ?_
  refine lE rfl ?_
  refine eBox1 rfl rfl fun n4 => ?_
  refine lV (yAssign rfl) rfl rfl ?_
  refine lNil ?_
  refine kThen ?_
  refine kSeq ?_
  refine kSeq ?_
  refine kRegion rfl ?_
  refine lV (yLoadA (vs := [_, _, _, _, _, _, _]) rfl A29 (cOwn 1 rfl rfl)) rfl rfl ?_
  refine lV (yCall rfl (.c rfl .n) C13 (fun w hw => great_any y m w)) rfl rfl ?_
  refine lV (yMove rfl) rfl rfl ?_
  refine splitB (t := 24) rfl (fun h24 => ?_) (fun h24 => ?_)
  · refine lGN rfl rfl rfl rfl rfl ?_
    refine lGN rfl rfl rfl rfl rfl ?_
    refine lGN rfl rfl rfl rfl rfl ?_
    refine lV (yPickT rfl rfl) rfl rfl ?_
    refine lNil ?_
    refine kThen ?_
    refine kIfT rfl ?_
    refine kSeq ?_
    refine kRegion rfl ?_
    refine lV (yCall rfl .n C15 (fun w hw => alive_any w)) rfl rfl ?_
    refine lV (yAssign rfl) rfl rfl ?_
    refine lNil ?_
    refine kThen ?_
    refine kRet ?_
    refine kThenR ?_
    refine fRet rfl (.t rfl .n) (endRet ?_)
    first | rfl | (simp [packV, *]; done)
  · have hG := of_decide_eq_false h24
    have hn : m.errs.length ≤ 1000000 := by unfold greatP at hG; omega
    refine lGY rfl rfl rfl (oV (yLoadA (vs := [_, _, _, _, _, _, _]) rfl A29 (cOwn 1 rfl rfl)) rfl ?_)
    refine lGY rfl rfl rfl (oV (yCall rfl (.c rfl .n) C28 (fun w hw => rmeasure_any y m w (hm.eff hw) hn)) rfl ?_)
    refine lGY rfl rfl rfl (oV (yNot rfl) rfl ?_)
    refine lV (yPickF rfl rfl) rfl rfl ?_
    refine lNil ?_
    refine kThen ?_
    refine splitB (t := 28) rfl (fun h28 => ?_) (fun h28 => ?_)
    · refine kIfT rfl ?_
      refine kSeq ?_
      refine kRegion rfl ?_
      refine lV (yCall rfl .n C15 (fun w hw => alive_any w)) rfl rfl ?_
      refine lV (yAssign rfl) rfl rfl ?_
      refine lNil ?_
      refine kThen ?_
      refine kRet ?_
      refine kThenR ?_
      refine fRet rfl (.t rfl .n) (endRet ?_)
      first | rfl | (simp [packV, *]; done)
    · refine kIfF rfl ?_
      refine kSkip ?_
      refine kThen ?_
      refine kSeq ?_
      by_cases ho : okF m
      · have hM := notF h28
        refine kRegion rfl ?_
        refine lV (yLoadA (vs := [_, _, _, _, _, _, _]) rfl A29 (cOwn 1 rfl rfl)) rfl rfl ?_
        refine lV (yCall rfl (.c rfl .n) C18 (fun w hw => sum_any y m w (hm.eff hw))) rfl rfl ?_
        refine same (t := 32) (u := outV (sumsF m (fullS m)).1 (sumsF m (fullS m)).2 0) rfl (by rw [sumE_ok hM ho]) ?_
        refine lV (yMove rfl) rfl rfl ?_
        refine lV (yExtract rfl rfl) rfl rfl ?_
        refine lV (yExtract rfl rfl) rfl rfl ?_
        refine lE rfl ?_
        refine eAlloc Z24 fun n7 => ?_
        refine lE rfl ?_
        refine eStoreL 0 rfl rfl rfl rfl K24 rfl (rfl) ?_
        refine lV (yAssign rfl) rfl rfl ?_
        refine lNil ?_
        refine kThen ?_
        refine kSeq ?_
        refine kSeq ?_
        refine kRegion rfl ?_
        refine lV (yMove rfl) rfl rfl ?_
        refine lV (yNeq rfl rfl) rfl rfl ?_
        refine knownN (t := 36) rfl (by decide) ?_
        refine lNil ?_
        refine kThen ?_
        refine kIfF rfl ?_
        refine kSkip ?_
        refine kThen ?_
        refine kSeq ?_
        refine kSeq ?_
        have hss := sums_sub hM ho
        have hpe := place_ends ho a
        have hu := hM.u
        have ho' := ho
        unfold spanOk at hu
        unfold okF at ho'
        have hbm := Int.emod_lt_of_pos (b : Int) (show 0 < (sumsF m (fullS m)).2 - (sumsF m (fullS m)).1 + 1 by omega)
        have hbn := Int.emod_nonneg (b : Int) (show (sumsF m (fullS m)).2 - (sumsF m (fullS m)).1 + 1 ≠ 0 by omega)
        have hor := endF_or m a
        refine kRegion rfl ?_
        refine lV (yFieldAddr rfl F24_0) rfl rfl ?_
        refine lV (yLoad1 rfl O3 (cOwn 0 rfl rfl)) rfl rfl ?_
        refine lV (yFieldAddr rfl F29_2) rfl rfl ?_
        refine lV (yFieldAddr rfl F24_0) rfl rfl ?_
        refine lV (yLoad1 rfl O3 (cOwn 2 rfl rfl)) rfl rfl ?_
        refine lV (yLss rfl rfl) rfl rfl ?_
        refine knownN (t := 52) rfl (by omega) ?_
        refine lV (yMove rfl) rfl rfl ?_
        refine lGY rfl rfl rfl (oV (yFieldAddr rfl F24_0) rfl ?_)
        refine lGY rfl rfl rfl (oV (yLoad1 rfl O3 (cOwn 0 rfl rfl)) rfl ?_)
        refine lGY rfl rfl rfl (oV (yFieldAddr rfl F24_1) rfl ?_)
        refine lGY rfl rfl rfl (oV (yLoad1 rfl O3 (cOwn 0 rfl rfl)) rfl ?_)
        refine lGY rfl rfl rfl (oV (yGtr rfl rfl) rfl ?_)
        refine knownN (t := 58) rfl (by omega) ?_
        refine lV (yPickF rfl rfl) rfl rfl ?_
        refine lV (yMove rfl) rfl rfl ?_
        refine lGY rfl rfl rfl (oV (yFieldAddr rfl F24_1) rfl ?_)
        refine lGY rfl rfl rfl (oV (yLoad1 rfl O3 (cOwn 0 rfl rfl)) rfl ?_)
        refine lGY rfl rfl rfl (oV (yFieldAddr rfl F29_2) rfl ?_)
        refine lGY rfl rfl rfl (oV (yFieldAddr rfl F24_1) rfl ?_)
        refine lGY rfl rfl rfl (oV (yLoad1 rfl O3 (cOwn 2 rfl rfl)) rfl ?_)
        refine lGY rfl rfl rfl (oV (yGtr rfl rfl) rfl ?_)
        refine knownN (t := 66) rfl (by omega) ?_
        refine lV (yPickF rfl rfl) rfl rfl ?_
        refine lNil ?_
        refine kThen ?_
        refine kIfF rfl ?_
        refine kSkip ?_
        refine kThen ?_
        refine kSeq ?_
        refine kRegion rfl ?_
        refine lV (yMakeFunc .n (.c rfl (.c rfl .n))) rfl rfl ?_
        refine lV (yAssign rfl) rfl rfl ?_
        refine lNil ?_
        refine kThen ?_
        refine kSeq ?_
        refine kRegion rfl ?_
        refine lV (yLoadA (vs := [_, _, _, _, _, _, _]) rfl A29 (cOwn 2 rfl rfl)) rfl rfl ?_
        refine lV (yLoad1 rfl O3 (cOwn 1 rfl rfl)) rfl rfl ?_
        refine lV (yCall rfl (.c rfl (.c rfl .n)) C20 (fun w hw => place_any y m a w (hm.eff hw))) rfl rfl ?_
        refine same (t := 72) (u := outV (if endF m a = 0 then placeF m (fullS m) a else (0, 0)).1 (if endF m a = 0 then placeF m (fullS m) a else (0, 0)).2 (endF m a)) rfl (by rw [place_end hM ho]) ?_
        refine lV (yMove rfl) rfl rfl ?_
        refine lV (yExtract rfl rfl) rfl rfl ?_
        refine lV (yExtract rfl rfl) rfl rfl ?_
        refine lE rfl ?_
        refine eAlloc Z24 fun n10 => ?_
        refine lE rfl ?_
        refine eStoreL 0 rfl rfl rfl rfl K24 rfl (rfl) ?_
        refine lV (yAssign rfl) rfl rfl ?_
        refine lNil ?_
        refine kThen ?_
        refine kSeq ?_
        refine kSeq ?_
        refine kRegion rfl ?_
        refine lV (yMove rfl) rfl rfl ?_
        refine lV (yNeq rfl rfl) rfl rfl ?_
        refine lV (yMove rfl) rfl rfl ?_
        refine split (t := 77) rfl (fun h77 => ?_) (fun h77 => ?_)
        · refine lGY rfl rfl rfl (oV (yMove rfl) rfl ?_)
          refine lGY rfl rfl rfl (oV (yNeq rfl rfl) rfl ?_)
          refine lV (yPickT rfl rfl) rfl rfl ?_
          refine lV (yMove rfl) rfl rfl ?_
          refine split (t := 81) rfl (fun h81 => ?_) (fun h81 => ?_)
          · refine lGY rfl rfl rfl (oV (yMove rfl) rfl ?_)
            refine lGY rfl rfl rfl (oV (yNeq rfl rfl) rfl ?_)
            refine knownN (t := 83) rfl (by omega) ?_
            refine lV (yPickT rfl rfl) rfl rfl ?_
            refine lNil ?_
            refine kThen ?_
            refine kIfF rfl ?_
            refine kSkip ?_
            refine kThen ?_
            refine kSeq ?_
            refine kRegion rfl ?_
            refine lV (yMove rfl) rfl rfl ?_
            refine lV (yFieldAddr rfl F24_0) rfl rfl ?_
            refine lV (yLoad1 rfl O3 (cOwn 1 rfl rfl)) rfl rfl ?_
            refine lV (yCall rfl (.c rfl .n) C29 (fun w hw => with_any n3 n4 y m a (sumsF m (fullS m)).1 w (hm.eff hw) (hw.blkAt 3 rfl) (hw.blkAt 2 rfl))) rfl rfl ?_
            refine same (t := 89) (u := outV (if endF m a = 0 then placesF m (fullS m) a (sumsF m (fullS m)).1 else (0, 0)).1 (if endF m a = 0 then placesF m (fullS m) a (sumsF m (fullS m)).1 else (0, 0)).2 (endF m a)) rfl (by rw [with_in hM ⟨Int.le_refl _, ho'⟩]) ?_
            refine lV (yMove rfl) rfl rfl ?_
            refine lV (yExtract rfl rfl) rfl rfl ?_
            refine lV (yExtract rfl rfl) rfl rfl ?_
            refine lE rfl ?_
            refine eAlloc Z24 fun n12 => ?_
            refine lE rfl ?_
            refine eStoreL 0 rfl rfl rfl rfl K24 rfl (rfl) ?_
            refine lV (yAssign rfl) rfl rfl ?_
            refine lNil ?_
            refine kThen ?_
            refine kSeq ?_
            refine kRegion rfl ?_
            refine lV (yMove rfl) rfl rfl ?_
            refine lV (yFieldAddr rfl F24_1) rfl rfl ?_
            refine lV (yLoad1 rfl O3 (cOwn 2 rfl rfl)) rfl rfl ?_
            refine lV (yCall rfl (.c rfl .n) C29 (fun w hw => with_any n3 n4 y m a (sumsF m (fullS m)).2 w (hm.eff hw) (hw.blkAt 4 rfl) (hw.blkAt 3 rfl))) rfl rfl ?_
            refine same (t := 96) (u := outV (if endF m a = 0 then placesF m (fullS m) a (sumsF m (fullS m)).2 else (0, 0)).1 (if endF m a = 0 then placesF m (fullS m) a (sumsF m (fullS m)).2 else (0, 0)).2 (endF m a)) rfl (by rw [with_in hM ⟨ho', Int.le_refl _⟩]) ?_
            refine lV (yMove rfl) rfl rfl ?_
            refine lV (yExtract rfl rfl) rfl rfl ?_
            refine lV (yExtract rfl rfl) rfl rfl ?_
            refine lE rfl ?_
            refine eAlloc Z24 fun n14 => ?_
            refine lE rfl ?_
            refine eStoreL 0 rfl rfl rfl rfl K24 rfl (rfl) ?_
            refine lV (yAssign rfl) rfl rfl ?_
            refine lNil ?_
            refine kThen ?_
            refine kSeq ?_
            refine kDrawE [(2, none), (6, none), (8, none), (13, none)] [] [0, 1, 2, 3, 4, 5, 6, 7, 8, 9, 10, 11, 12, 13, 14, 15, 16, 19] 2 hMix (by kernel_rfl) ?_
            refine .run rfl (yMove rfl) rfl rfl ?_
            refine .run rfl (yFieldAddr rfl F24_0) rfl rfl ?_
            refine .run rfl (yLoad1 rfl O3 (cOwn 3 rfl rfl)) rfl rfl ?_
            refine .run rfl (yMove rfl) rfl rfl ?_
            refine .run rfl (yConvInt rfl U51 U3 (conv_ok (by omega))) rfl rfl ?_
            refine .run rfl (yFieldAddr rfl F24_1) rfl rfl ?_
            refine .run rfl (yLoad1 rfl O3 (cOwn 3 rfl rfl)) rfl rfl ?_
            refine .run rfl (yFieldAddr rfl F24_0) rfl rfl ?_
            refine .run rfl (yLoad1 rfl O3 (cOwn 3 rfl rfl)) rfl rfl ?_
            refine .run rfl (ySub rfl rfl (by omega)) rfl rfl ?_
            refine .run rfl (yAdd rfl rfl (by omega)) rfl rfl ?_
            refine .run rfl (yRem rfl rfl (by omega) (by omega)) rfl rfl ?_
            refine .run rfl (yAdd rfl rfl (by omega)) rfl rfl ?_
            refine .run rfl (yvSame (u := outV (if endF m a = 0 then placesF m (fullS m) a ((sumsF m (fullS m)).1 + (b : Int) % ((sumsF m (fullS m)).2 - (sumsF m (fullS m)).1 + 1)) else (0, 0)).1 (if endF m a = 0 then placesF m (fullS m) a ((sumsF m (fullS m)).1 + (b : Int) % ((sumsF m (fullS m)).2 - (sumsF m (fullS m)).1 + 1)) else (0, 0)).2 (endF m a)) (yCall rfl (.c rfl .n) C29 (fun w hw => with_any n3 n4 y m a ((sumsF m (fullS m)).1 + (b : Int) % ((sumsF m (fullS m)).2 - (sumsF m (fullS m)).1 + 1)) w (hm.eff hw) (hw.blkAt 5 rfl) (hw.blkAt 4 rfl))) (by rw [with_in hM ⟨by omega, by omega⟩])) rfl rfl ?_
            refine .run rfl (yMove rfl) rfl rfl ?_
            refine .run rfl (yExtract rfl rfl) rfl rfl ?_
            refine .run rfl (yExtract rfl rfl) rfl rfl ?_
            refine .run rfl (yAssign rfl) rfl rfl ?_
            refine .done ?_
            refine effStep 17 [] (by kernel_rfl) closedSt (hLeft [2, 6, 8, 13] (by kernel_rfl) (.c (fun _ _ hs => hs.ef) (.c (fun _ _ hs => hs.ef) (.c (fun _ _ hs => hs.ef) (.c (fun _ _ hs => hs.ef) .n))))) ?_
            refine .c ?_ .n
            refine effOne rfl (gNone rfl (fAlloc Z24)) ?_
            refine effStep 18 [] (by kernel_rfl) (closedEx fun n16 => closedSt) (hLeft [2, 6, 8, 13] (by kernel_rfl) (.c (fun _ _ ⟨n16, hs⟩ => hs.ef.sub (.c 1 rfl (.c 1 rfl (.c 1 rfl (.c 1 rfl (.c 1 rfl (.c 1 rfl .n))))))) (.c (fun _ _ ⟨n16, hs⟩ => hs.ef.sub (.c 1 rfl (.c 1 rfl (.c 1 rfl (.c 1 rfl (.c 1 rfl (.c 1 rfl .n))))))) (.c (fun _ _ ⟨n16, hs⟩ => hs.ef.sub (.c 1 rfl (.c 1 rfl (.c 1 rfl (.c 1 rfl (.c 1 rfl (.c 1 rfl .n))))))) (.c (fun _ _ ⟨n16, hs⟩ => hs.ef.sub (.c 1 rfl (.c 1 rfl (.c 1 rfl (.c 1 rfl (.c 1 rfl (.c 1 rfl .n))))))) .n))))) ?_
            refine .c ?_ .n
            refine effOne rfl (opEx fun n16 => (gNone rfl (fStoreL 0 rfl rfl rfl rfl K24 rfl (rfl)))) ?_
            refine effDone (closedEx fun n16 => closedSt) (hLeft [] (by kernel_rfl) .n) (by kernel_rfl) ?_
            refine trEx fun n16 => ?_
            refine kThen ?_
            refine kSeq ?_
            refine kSeq ?_
            refine kRegion rfl ?_
            refine lV (yMove rfl) rfl rfl ?_
            refine lV (yMove rfl) rfl rfl ?_
            refine lV (yNeq rfl rfl) rfl rfl ?_
            refine knownN (t := 118) rfl (fun h => h rfl) ?_
            refine lV (yMove rfl) rfl rfl ?_
            refine lGY rfl rfl rfl (oV (yMove rfl) rfl ?_)
            refine lGY rfl rfl rfl (oV (yMove rfl) rfl ?_)
            refine lGY rfl rfl rfl (oV (yNeq rfl rfl) rfl ?_)
            refine knownN (t := 122) rfl (fun h => h rfl) ?_
            refine lV (yPickF rfl rfl) rfl rfl ?_
            refine lV (yMove rfl) rfl rfl ?_
            refine lGY rfl rfl rfl (oV (yMove rfl) rfl ?_)
            refine lGY rfl rfl rfl (oV (yMove rfl) rfl ?_)
            refine lGY rfl rfl rfl (oV (yNeq rfl rfl) rfl ?_)
            refine knownN (t := 127) rfl (fun h => h rfl) ?_
            refine lV (yPickF rfl rfl) rfl rfl ?_
            refine lNil ?_
            refine kThen ?_
            refine kIfF rfl ?_
            refine kSkip ?_
            refine kThen ?_
            refine kSeq ?_
            refine kSeq ?_
            refine kRegion rfl ?_
            refine lV (yMove rfl) rfl rfl ?_
            refine lV (yEql rfl rfl) rfl rfl ?_
            refine lNil ?_
            refine kThen ?_
            refine split (t := 130) rfl (fun h130 => ?_) (fun h130 => ?_)
            · simp only [if_pos h130]
              have hp2 := hpe.2.2 _ (show (sumsF m (fullS m)).1 ≤ (sumsF m (fullS m)).1 + (b : Int) % ((sumsF m (fullS m)).2 - (sumsF m (fullS m)).1 + 1) by omega) (by omega)
              have hp3 := places_mono m (fullS m) a ho'
              have hp4 := hpe.1
              have hp5 := hpe.2.1
              refine kIfT rfl ?_
              refine kSeq ?_
              refine kRegion rfl ?_
              refine lV (yFieldAddr rfl F24_0) rfl rfl ?_
              refine lV (yLoad1 rfl O3 (cOwn 0 rfl rfl)) rfl rfl ?_
              refine lV (yFieldAddr rfl F24_0) rfl rfl ?_
              refine lV (yLoad1 rfl O3 (cOwn 3 rfl rfl)) rfl rfl ?_
              refine lV (yLss rfl rfl) rfl rfl ?_
              refine knownN (t := 135) rfl (by omega) ?_
              refine lV (yMove rfl) rfl rfl ?_
              refine lGY rfl rfl rfl (oV (yFieldAddr rfl F24_1) rfl ?_)
              refine lGY rfl rfl rfl (oV (yLoad1 rfl O3 (cOwn 0 rfl rfl)) rfl ?_)
              refine lGY rfl rfl rfl (oV (yFieldAddr rfl F24_1) rfl ?_)
              refine lGY rfl rfl rfl (oV (yLoad1 rfl O3 (cOwn 3 rfl rfl)) rfl ?_)
              refine lGY rfl rfl rfl (oV (yGtr rfl rfl) rfl ?_)
              refine knownN (t := 141) rfl (by omega) ?_
              refine lV (yPickF rfl rfl) rfl rfl ?_
              refine lV (yMove rfl) rfl rfl ?_
              refine lGY rfl rfl rfl (oV (yFieldAddr rfl F24_0) rfl ?_)
              refine lGY rfl rfl rfl (oV (yLoad1 rfl O3 (cOwn 2 rfl rfl)) rfl ?_)
              refine lGY rfl rfl rfl (oV (yFieldAddr rfl F24_0) rfl ?_)
              refine lGY rfl rfl rfl (oV (yLoad1 rfl O3 (cOwn 1 rfl rfl)) rfl ?_)
              refine lGY rfl rfl rfl (oV (yMin rfl rfl) rfl ?_)
              refine lGY rfl rfl rfl (oV (yFieldAddr rfl F24_0) rfl ?_)
              refine lGY rfl rfl rfl (oV (yLoad1 rfl O3 (cOwn 3 rfl rfl)) rfl ?_)
              refine lGY rfl rfl rfl (oV (yNeq rfl rfl) rfl ?_)
              refine knownN (t := 151) rfl (by omega) ?_
              refine lV (yPickF rfl rfl) rfl rfl ?_
              refine lV (yMove rfl) rfl rfl ?_
              refine lGY rfl rfl rfl (oV (yFieldAddr rfl F24_1) rfl ?_)
              refine lGY rfl rfl rfl (oV (yLoad1 rfl O3 (cOwn 2 rfl rfl)) rfl ?_)
              refine lGY rfl rfl rfl (oV (yFieldAddr rfl F24_1) rfl ?_)
              refine lGY rfl rfl rfl (oV (yLoad1 rfl O3 (cOwn 1 rfl rfl)) rfl ?_)
              refine lGY rfl rfl rfl (oV (yMax rfl rfl) rfl ?_)
              refine lGY rfl rfl rfl (oV (yFieldAddr rfl F24_1) rfl ?_)
              refine lGY rfl rfl rfl (oV (yLoad1 rfl O3 (cOwn 3 rfl rfl)) rfl ?_)
              refine lGY rfl rfl rfl (oV (yNeq rfl rfl) rfl ?_)
              refine knownN (t := 161) rfl (by omega) ?_
              refine lV (yPickF rfl rfl) rfl rfl ?_
              refine lNil ?_
              refine kThen ?_
              refine kIfF rfl ?_
              refine kSkip ?_
              refine kThen ?_
              refine kSeq ?_
              refine kSeq ?_
              refine kRegion rfl ?_
              refine lV (yFieldAddr rfl F24_0) rfl rfl ?_
              refine lV (yLoad1 rfl O3 (cOwn 4 rfl rfl)) rfl rfl ?_
              refine lV (ySub rfl rfl (by omega)) rfl rfl ?_
              refine lV (yFieldAddr rfl F24_1) rfl rfl ?_
              refine lV (yLoad1 rfl O3 (cOwn 4 rfl rfl)) rfl rfl ?_
              refine lV (yAdd rfl rfl (by omega)) rfl rfl ?_
              refine lE rfl ?_
              refine eBuildSlice (.c rfl (.c rfl .n)) (fun w => BS41_2_0_1 w) fun n169 => ?_
              refine lV (yLen rfl S41) rfl rfl ?_
              refine lV (yMove rfl) rfl rfl ?_
              refine lNil ?_
              refine kThen ?_
              refine kBlock ?_
              refine kLoopX (ι := Nat) (fun i => i ≤ 2) (fun i => [(171, i64 (i : Nat))]) [(0, _), (1, _), (2, _), (3, _), (4, _), (22, _), (23, _), (24, _), (25, _), (26, _), (27, _), (28, _), (31, _), (32, _), (30, _), (33, _), (34, _), (7, _), (8, _), (35, _), (36, _), (47, _), (48, _), (49, _), (50, _), (51, _), (52, _), (53, _), (54, _), (55, _), (56, _), (57, _), (58, _), (59, _), (60, _), (61, _), (62, _), (63, _), (64, _), (65, _), (66, _), (67, _), (68, _), (9, _), (70, _), (71, _), (72, _), (69, _), (73, _), (74, _), (10, _), (11, _), (75, _), (76, _), (77, _), (78, _), (79, _), (80, _), (81, _), (82, _), (83, _), (84, _), (86, _), (87, _), (88, _), (89, _), (85, _), (90, _), (91, _), (12, _), (13, _), (93, _), (94, _), (95, _), (96, _), (92, _), (97, _), (98, _), (14, _), (15, _), (100, _), (101, _), (102, _), (103, _), (104, _), (105, _), (106, _), (107, _), (108, _), (109, _), (110, _), (111, _), (112, _), (113, _), (99, _), (114, _), (115, _), (17, _), (16, _), (116, _), (117, _), (118, _), (119, _), (120, _), (121, _), (122, _), (123, _), (124, _), (125, _), (126, _), (127, _), (128, _), (129, _), (130, _), (131, _), (132, _), (133, _), (134, _), (135, _), (136, _), (137, _), (138, _), (139, _), (140, _), (141, _), (142, _), (143, _), (144, _), (145, _), (146, _), (147, _), (148, _), (149, _), (150, _), (151, _), (152, _), (153, _), (154, _), (155, _), (156, _), (157, _), (158, _), (159, _), (160, _), (161, _), (162, _), (163, _), (164, _), (165, _), (166, _), (167, _), (168, _), (169, _), (170, _)] (fun i => []) (fun i => []) [(n169, _), (n16, _), (n14, _), (n12, _), (n10, _), (n7, _), (n4, _), (n3, _)] (fun i => 2 - i) 0 (by omega) rfl (.c rfl .n) (.c rfl (.c rfl (.c rfl (.c rfl (.c rfl (.c rfl (.c rfl (.c rfl (.c rfl (.c rfl (.c rfl (.c rfl (.c rfl (.c rfl (.c rfl (.c rfl (.c rfl (.c rfl (.c rfl (.c rfl (.c rfl (.c rfl (.c rfl (.c rfl (.c rfl (.c rfl (.c rfl (.c rfl (.c rfl (.c rfl (.c rfl (.c rfl (.c rfl (.c rfl (.c rfl (.c rfl (.c rfl (.c rfl (.c rfl (.c rfl (.c rfl (.c rfl (.c rfl (.c rfl (.c rfl (.c rfl (.c rfl (.c rfl (.c rfl (.c rfl (.c rfl (.c rfl (.c rfl (.c rfl (.c rfl (.c rfl (.c rfl (.c rfl (.c rfl (.c rfl (.c rfl (.c rfl (.c rfl (.c rfl (.c rfl (.c rfl (.c rfl (.c rfl (.c rfl (.c rfl (.c rfl (.c rfl (.c rfl (.c rfl (.c rfl (.c rfl (.c rfl (.c rfl (.c rfl (.c rfl (.c rfl (.c rfl (.c rfl (.c rfl (.c rfl (.c rfl (.c rfl (.c rfl (.c rfl (.c rfl (.c rfl (.c rfl (.c rfl (.c rfl (.c rfl (.c rfl (.c rfl (.c rfl (.c rfl (.c rfl (.c rfl (.c rfl (.c rfl (.c rfl (.c rfl (.c rfl (.c rfl (.c rfl (.c rfl (.c rfl (.c rfl (.c rfl (.c rfl (.c rfl (.c rfl (.c rfl (.c rfl (.c rfl (.c rfl (.c rfl (.c rfl (.c rfl (.c rfl (.c rfl (.c rfl (.c rfl (.c rfl (.c rfl (.c rfl (.c rfl (.c rfl (.c rfl (.c rfl (.c rfl (.c rfl (.c rfl (.c rfl (.c rfl (.c rfl (.c rfl (.c rfl (.c rfl (.c rfl (.c rfl (.c rfl (.c rfl (.c rfl (.c rfl (.c rfl (.c rfl (.c rfl (.c rfl (.c rfl (.c rfl .n)))))))))))))))))))))))))))))))))))))))))))))))))))))))))))))))))))))))))))))))))))))))))))))))))))))))))))))))))))))))))))))))))))))))))))))))))))))))))) (.c 0 rfl (.c 0 rfl (.c 0 rfl (.c 0 rfl (.c 0 rfl (.c 0 rfl (.c 0 rfl (.c 0 rfl .n)))))))) ?_
              rintro i hi
              refine kSeq ?_
              refine kRegion rfl ?_
              refine lV (yLss rfl rfl) rfl rfl ?_
              refine lNil ?_
              refine kThen ?_
              refine kSeq ?_
              refine split (t := 172) rfl (fun h172 => ?_) (fun h172 => ?_)
              · refine kIfT rfl ?_
                refine kSkip ?_
                refine kThen ?_
                refine kSeq ?_
                refine kBlock ?_
                refine kSeq ?_
                refine kRegion rfl ?_
                refine lV (yIndexSl rfl rfl S41 (by omega) (by omega)) rfl rfl ?_
                refine lV (yLoad1 rfl O3 (cOwn 0 rfl (two_at (by omega)))) rfl rfl ?_
                refine lV (yAssign rfl) rfl rfl ?_
                refine lNil ?_
                obtain ⟨v, hv⟩ : ∃ v : Int, v = if i = 0 then (sumsF m (fullS m)).1 - 1 else (sumsF m (fullS m)).2 + 1 := ⟨_, rfl⟩
                rw [← hv]
                have hv' : v = (sumsF m (fullS m)).1 - 1 ∨ v = (sumsF m (fullS m)).2 + 1 := by rw [hv]; split <;> simp
                clear hv
                refine kThen ?_
                refine kSeq ?_
                refine kSeq ?_
                refine kRegion rfl ?_
                refine lV (yMove rfl) rfl rfl ?_
                refine lV (yFieldAddr rfl F29_2) rfl rfl ?_
                refine lV (yFieldAddr rfl F24_0) rfl rfl ?_
                refine lV (yLoad1 rfl O3 (cOwn 7 rfl rfl)) rfl rfl ?_
                refine lV (yLss rfl rfl) rfl rfl ?_
                refine lV (yMove rfl) rfl rfl ?_
                refine split (t := 180) rfl (fun h180 => ?_) (fun h180 => ?_)
                · refine lGN rfl rfl rfl rfl rfl ?_
                  refine lGN rfl rfl rfl rfl rfl ?_
                  refine lGN rfl rfl rfl rfl rfl ?_
                  refine lGN rfl rfl rfl rfl rfl ?_
                  refine lGN rfl rfl rfl rfl rfl ?_
                  refine lV (yPickT rfl rfl) rfl rfl ?_
                  refine lNil ?_
                  refine kThen ?_
                  refine kIfT rfl ?_
                  refine kExit ?_
                  refine kThenX ?_
                  refine kInX ?_
                  refine kThen ?_
                  refine kRegion rfl ?_
                  refine lV (yAdd rfl rfl (by omega)) rfl rfl ?_
                  refine lV (yMove rfl) rfl rfl ?_
                  refine lNil ?_
                  exact kRoundX (i + 1) (by omega) (by omega) rfl (.c rfl .n) (.c rfl (.c rfl (.c rfl (.c rfl (.c rfl (.c rfl (.c rfl (.c rfl (.c rfl (.c rfl (.c rfl (.c rfl (.c rfl (.c rfl (.c rfl (.c rfl (.c rfl (.c rfl (.c rfl (.c rfl (.c rfl (.c rfl (.c rfl (.c rfl (.c rfl (.c rfl (.c rfl (.c rfl (.c rfl (.c rfl (.c rfl (.c rfl (.c rfl (.c rfl (.c rfl (.c rfl (.c rfl (.c rfl (.c rfl (.c rfl (.c rfl (.c rfl (.c rfl (.c rfl (.c rfl (.c rfl (.c rfl (.c rfl (.c rfl (.c rfl (.c rfl (.c rfl (.c rfl (.c rfl (.c rfl (.c rfl (.c rfl (.c rfl (.c rfl (.c rfl (.c rfl (.c rfl (.c rfl (.c rfl (.c rfl (.c rfl (.c rfl (.c rfl (.c rfl (.c rfl (.c rfl (.c rfl (.c rfl (.c rfl (.c rfl (.c rfl (.c rfl (.c rfl (.c rfl (.c rfl (.c rfl (.c rfl (.c rfl (.c rfl (.c rfl (.c rfl (.c rfl (.c rfl (.c rfl (.c rfl (.c rfl (.c rfl (.c rfl (.c rfl (.c rfl (.c rfl (.c rfl (.c rfl (.c rfl (.c rfl (.c rfl (.c rfl (.c rfl (.c rfl (.c rfl (.c rfl (.c rfl (.c rfl (.c rfl (.c rfl (.c rfl (.c rfl (.c rfl (.c rfl (.c rfl (.c rfl (.c rfl (.c rfl (.c rfl (.c rfl (.c rfl (.c rfl (.c rfl (.c rfl (.c rfl (.c rfl (.c rfl (.c rfl (.c rfl (.c rfl (.c rfl (.c rfl (.c rfl (.c rfl (.c rfl (.c rfl (.c rfl (.c rfl (.c rfl (.c rfl (.c rfl (.c rfl (.c rfl (.c rfl (.c rfl (.c rfl (.c rfl (.c rfl (.c rfl (.c rfl (.c rfl (.c rfl (.c rfl (.c rfl .n)))))))))))))))))))))))))))))))))))))))))))))))))))))))))))))))))))))))))))))))))))))))))))))))))))))))))))))))))))))))))))))))))))))))))))))))))))))))))) (.c 0 rfl (.c 0 rfl (.c 0 rfl (.c 0 rfl (.c 0 rfl (.c 0 rfl (.c 0 rfl (.c 0 rfl .n))))))))
                · refine lGY rfl rfl rfl (oV (yMove rfl) rfl ?_)
                  refine lGY rfl rfl rfl (oV (yFieldAddr rfl F29_2) rfl ?_)
                  refine lGY rfl rfl rfl (oV (yFieldAddr rfl F24_1) rfl ?_)
                  refine lGY rfl rfl rfl (oV (yLoad1 rfl O3 (cOwn 7 rfl rfl)) rfl ?_)
                  refine lGY rfl rfl rfl (oV (yGtr rfl rfl) rfl ?_)
                  refine lV (yPickF rfl rfl) rfl rfl ?_
                  refine lNil ?_
                  refine kThen ?_
                  refine split (t := 186) rfl (fun h186 => ?_) (fun h186 => ?_)
                  · refine kIfT rfl ?_
                    refine kExit ?_
                    refine kThenX ?_
                    refine kInX ?_
                    refine kThen ?_
                    refine kRegion rfl ?_
                    refine lV (yAdd rfl rfl (by omega)) rfl rfl ?_
                    refine lV (yMove rfl) rfl rfl ?_
                    refine lNil ?_
                    exact kRoundX (i + 1) (by omega) (by omega) rfl (.c rfl .n) (.c rfl (.c rfl (.c rfl (.c rfl (.c rfl (.c rfl (.c rfl (.c rfl (.c rfl (.c rfl (.c rfl (.c rfl (.c rfl (.c rfl (.c rfl (.c rfl (.c rfl (.c rfl (.c rfl (.c rfl (.c rfl (.c rfl (.c rfl (.c rfl (.c rfl (.c rfl (.c rfl (.c rfl (.c rfl (.c rfl (.c rfl (.c rfl (.c rfl (.c rfl (.c rfl (.c rfl (.c rfl (.c rfl (.c rfl (.c rfl (.c rfl (.c rfl (.c rfl (.c rfl (.c rfl (.c rfl (.c rfl (.c rfl (.c rfl (.c rfl (.c rfl (.c rfl (.c rfl (.c rfl (.c rfl (.c rfl (.c rfl (.c rfl (.c rfl (.c rfl (.c rfl (.c rfl (.c rfl (.c rfl (.c rfl (.c rfl (.c rfl (.c rfl (.c rfl (.c rfl (.c rfl (.c rfl (.c rfl (.c rfl (.c rfl (.c rfl (.c rfl (.c rfl (.c rfl (.c rfl (.c rfl (.c rfl (.c rfl (.c rfl (.c rfl (.c rfl (.c rfl (.c rfl (.c rfl (.c rfl (.c rfl (.c rfl (.c rfl (.c rfl (.c rfl (.c rfl (.c rfl (.c rfl (.c rfl (.c rfl (.c rfl (.c rfl (.c rfl (.c rfl (.c rfl (.c rfl (.c rfl (.c rfl (.c rfl (.c rfl (.c rfl (.c rfl (.c rfl (.c rfl (.c rfl (.c rfl (.c rfl (.c rfl (.c rfl (.c rfl (.c rfl (.c rfl (.c rfl (.c rfl (.c rfl (.c rfl (.c rfl (.c rfl (.c rfl (.c rfl (.c rfl (.c rfl (.c rfl (.c rfl (.c rfl (.c rfl (.c rfl (.c rfl (.c rfl (.c rfl (.c rfl (.c rfl (.c rfl (.c rfl (.c rfl (.c rfl (.c rfl (.c rfl (.c rfl (.c rfl (.c rfl (.c rfl (.c rfl (.c rfl .n)))))))))))))))))))))))))))))))))))))))))))))))))))))))))))))))))))))))))))))))))))))))))))))))))))))))))))))))))))))))))))))))))))))))))))))))))))))))))) (.c 0 rfl (.c 0 rfl (.c 0 rfl (.c 0 rfl (.c 0 rfl (.c 0 rfl (.c 0 rfl (.c 0 rfl .n))))))))
                  · refine kIfF rfl ?_
                    refine kSkip ?_
                    refine kThen ?_
                    refine kSeq ?_
                    have hwo := with_out hM (n := v) (by omega) (by omega) a
                    refine kRegion rfl ?_
                    refine lV (yMove rfl) rfl rfl ?_
                    refine lV (yMove rfl) rfl rfl ?_
                    refine lV (yCall rfl (.c rfl .n) C29 (fun w hw => with_any n3 n4 y m a v w (hm.eff hw) (hw.blkAt 7 rfl) (hw.blkAt 6 rfl))) rfl rfl ?_
                    refine lV (yMove rfl) rfl rfl ?_
                    refine lV (yExtract rfl rfl) rfl rfl ?_
                    refine lV (yExtract rfl rfl) rfl rfl ?_
                    refine lE rfl ?_
                    refine eAlloc Z24 fun n20 => ?_
                    refine lE rfl ?_
                    refine eStoreL 0 rfl rfl rfl rfl K24 rfl (rfl) ?_
                    refine lV (yAssign rfl) rfl rfl ?_
                    refine lNil ?_
                    refine kThen ?_
                    refine kSeq ?_
                    refine kRegion rfl ?_
                    refine lV (yMove rfl) rfl rfl ?_
                    refine lV (yNeq rfl rfl) rfl rfl ?_
                    refine lV (yMove rfl) rfl rfl ?_
                    refine split (t := 195) rfl (fun h195 => ?_) (fun h195 => ?_)
                    · refine lGY rfl rfl rfl (oV (yMove rfl) rfl ?_)
                      refine lGY rfl rfl rfl (oV (yNeq rfl rfl) rfl ?_)
                      refine knownN (t := 197) rfl (by omega) ?_
                      refine lV (yPickT rfl rfl) rfl rfl ?_
                      refine lNil ?_
                      refine kThen ?_
                      refine kIfF rfl ?_
                      refine kSkip ?_
                      refine kInN ?_
                      refine kThen ?_
                      refine kRegion rfl ?_
                      refine lV (yAdd rfl rfl (by omega)) rfl rfl ?_
                      refine lV (yMove rfl) rfl rfl ?_
                      refine lNil ?_
                      exact kRoundX (i + 1) (by omega) (by omega) rfl (.c rfl .n) (.c rfl (.c rfl (.c rfl (.c rfl (.c rfl (.c rfl (.c rfl (.c rfl (.c rfl (.c rfl (.c rfl (.c rfl (.c rfl (.c rfl (.c rfl (.c rfl (.c rfl (.c rfl (.c rfl (.c rfl (.c rfl (.c rfl (.c rfl (.c rfl (.c rfl (.c rfl (.c rfl (.c rfl (.c rfl (.c rfl (.c rfl (.c rfl (.c rfl (.c rfl (.c rfl (.c rfl (.c rfl (.c rfl (.c rfl (.c rfl (.c rfl (.c rfl (.c rfl (.c rfl (.c rfl (.c rfl (.c rfl (.c rfl (.c rfl (.c rfl (.c rfl (.c rfl (.c rfl (.c rfl (.c rfl (.c rfl (.c rfl (.c rfl (.c rfl (.c rfl (.c rfl (.c rfl (.c rfl (.c rfl (.c rfl (.c rfl (.c rfl (.c rfl (.c rfl (.c rfl (.c rfl (.c rfl (.c rfl (.c rfl (.c rfl (.c rfl (.c rfl (.c rfl (.c rfl (.c rfl (.c rfl (.c rfl (.c rfl (.c rfl (.c rfl (.c rfl (.c rfl (.c rfl (.c rfl (.c rfl (.c rfl (.c rfl (.c rfl (.c rfl (.c rfl (.c rfl (.c rfl (.c rfl (.c rfl (.c rfl (.c rfl (.c rfl (.c rfl (.c rfl (.c rfl (.c rfl (.c rfl (.c rfl (.c rfl (.c rfl (.c rfl (.c rfl (.c rfl (.c rfl (.c rfl (.c rfl (.c rfl (.c rfl (.c rfl (.c rfl (.c rfl (.c rfl (.c rfl (.c rfl (.c rfl (.c rfl (.c rfl (.c rfl (.c rfl (.c rfl (.c rfl (.c rfl (.c rfl (.c rfl (.c rfl (.c rfl (.c rfl (.c rfl (.c rfl (.c rfl (.c rfl (.c rfl (.c rfl (.c rfl (.c rfl (.c rfl (.c rfl (.c rfl (.c rfl (.c rfl (.c rfl (.c rfl (.c rfl (.c rfl .n)))))))))))))))))))))))))))))))))))))))))))))))))))))))))))))))))))))))))))))))))))))))))))))))))))))))))))))))))))))))))))))))))))))))))))))))))))))))))) (.c 1 rfl (.c 1 rfl (.c 1 rfl (.c 1 rfl (.c 1 rfl (.c 1 rfl (.c 1 rfl (.c 1 rfl .n))))))))
                    · refine lGN rfl rfl rfl rfl rfl ?_
                      refine lGN rfl rfl rfl rfl rfl ?_
                      refine lV (yPickF rfl rfl) rfl rfl ?_
                      refine lNil ?_
                      refine kThen ?_
                      refine kIfF rfl ?_
                      refine kSkip ?_
                      refine kInN ?_
                      refine kThen ?_
                      refine kRegion rfl ?_
                      refine lV (yAdd rfl rfl (by omega)) rfl rfl ?_
                      refine lV (yMove rfl) rfl rfl ?_
                      refine lNil ?_
                      exact kRoundX (i + 1) (by omega) (by omega) rfl (.c rfl .n) (.c rfl (.c rfl (.c rfl (.c rfl (.c rfl (.c rfl (.c rfl (.c rfl (.c rfl (.c rfl (.c rfl (.c rfl (.c rfl (.c rfl (.c rfl (.c rfl (.c rfl (.c rfl (.c rfl (.c rfl (.c rfl (.c rfl (.c rfl (.c rfl (.c rfl (.c rfl (.c rfl (.c rfl (.c rfl (.c rfl (.c rfl (.c rfl (.c rfl (.c rfl (.c rfl (.c rfl (.c rfl (.c rfl (.c rfl (.c rfl (.c rfl (.c rfl (.c rfl (.c rfl (.c rfl (.c rfl (.c rfl (.c rfl (.c rfl (.c rfl (.c rfl (.c rfl (.c rfl (.c rfl (.c rfl (.c rfl (.c rfl (.c rfl (.c rfl (.c rfl (.c rfl (.c rfl (.c rfl (.c rfl (.c rfl (.c rfl (.c rfl (.c rfl (.c rfl (.c rfl (.c rfl (.c rfl (.c rfl (.c rfl (.c rfl (.c rfl (.c rfl (.c rfl (.c rfl (.c rfl (.c rfl (.c rfl (.c rfl (.c rfl (.c rfl (.c rfl (.c rfl (.c rfl (.c rfl (.c rfl (.c rfl (.c rfl (.c rfl (.c rfl (.c rfl (.c rfl (.c rfl (.c rfl (.c rfl (.c rfl (.c rfl (.c rfl (.c rfl (.c rfl (.c rfl (.c rfl (.c rfl (.c rfl (.c rfl (.c rfl (.c rfl (.c rfl (.c rfl (.c rfl (.c rfl (.c rfl (.c rfl (.c rfl (.c rfl (.c rfl (.c rfl (.c rfl (.c rfl (.c rfl (.c rfl (.c rfl (.c rfl (.c rfl (.c rfl (.c rfl (.c rfl (.c rfl (.c rfl (.c rfl (.c rfl (.c rfl (.c rfl (.c rfl (.c rfl (.c rfl (.c rfl (.c rfl (.c rfl (.c rfl (.c rfl (.c rfl (.c rfl (.c rfl (.c rfl (.c rfl (.c rfl (.c rfl (.c rfl (.c rfl .n)))))))))))))))))))))))))))))))))))))))))))))))))))))))))))))))))))))))))))))))))))))))))))))))))))))))))))))))))))))))))))))))))))))))))))))))))))))))))) (.c 1 rfl (.c 1 rfl (.c 1 rfl (.c 1 rfl (.c 1 rfl (.c 1 rfl (.c 1 rfl (.c 1 rfl .n))))))))
              · refine kIfF rfl ?_
                refine kExit ?_
                refine kThenX ?_
                refine kThenX ?_
                refine kInX ?_
                refine kThen ?_
                refine kSeq ?_
                refine kRegion rfl ?_
                refine lV (yCall rfl .n C15 (fun w hw => alive_any w)) rfl rfl ?_
                refine lV (yAssign rfl) rfl rfl ?_
                refine lNil ?_
                refine kThen ?_
                refine kRet ?_
                refine fRet rfl (.t rfl .n) (endRet ?_)
                first | rfl | (simp [packV, *]; done)
            · refine kIfF rfl ?_
              refine kSkip ?_
              refine kThen ?_
              refine kSeq ?_
              refine kSeq ?_
              refine kRegion rfl ?_
              refine lV (yFieldAddr rfl F24_0) rfl rfl ?_
              refine lV (yLoad1 rfl O3 (cOwn 4 rfl rfl)) rfl rfl ?_
              refine lV (ySub rfl rfl (by omega)) rfl rfl ?_
              refine lV (yFieldAddr rfl F24_1) rfl rfl ?_
              refine lV (yLoad1 rfl O3 (cOwn 4 rfl rfl)) rfl rfl ?_
              refine lV (yAdd rfl rfl (by omega)) rfl rfl ?_
              refine lE rfl ?_
              refine eBuildSlice (.c rfl (.c rfl .n)) (fun w => BS41_2_0_1 w) fun n169 => ?_
              refine lV (yLen rfl S41) rfl rfl ?_
              refine lV (yMove rfl) rfl rfl ?_
              refine lNil ?_
              refine kThen ?_
              refine kBlock ?_
              refine kLoopX (ι := Nat) (fun i => i ≤ 2) (fun i => [(171, i64 (i : Nat))]) [(0, _), (1, _), (2, _), (3, _), (4, _), (22, _), (23, _), (24, _), (25, _), (26, _), (27, _), (28, _), (31, _), (32, _), (30, _), (33, _), (34, _), (7, _), (8, _), (35, _), (36, _), (47, _), (48, _), (49, _), (50, _), (51, _), (52, _), (53, _), (54, _), (55, _), (56, _), (57, _), (58, _), (59, _), (60, _), (61, _), (62, _), (63, _), (64, _), (65, _), (66, _), (67, _), (68, _), (9, _), (70, _), (71, _), (72, _), (69, _), (73, _), (74, _), (10, _), (11, _), (75, _), (76, _), (77, _), (78, _), (79, _), (80, _), (81, _), (82, _), (83, _), (84, _), (86, _), (87, _), (88, _), (89, _), (85, _), (90, _), (91, _), (12, _), (13, _), (93, _), (94, _), (95, _), (96, _), (92, _), (97, _), (98, _), (14, _), (15, _), (100, _), (101, _), (102, _), (103, _), (104, _), (105, _), (106, _), (107, _), (108, _), (109, _), (110, _), (111, _), (112, _), (113, _), (99, _), (114, _), (115, _), (17, _), (16, _), (116, _), (117, _), (118, _), (119, _), (120, _), (121, _), (122, _), (123, _), (124, _), (125, _), (126, _), (127, _), (128, _), (129, _), (130, _), (163, _), (164, _), (165, _), (166, _), (167, _), (168, _), (169, _), (170, _)] (fun i => []) (fun i => []) [(n169, _), (n16, _), (n14, _), (n12, _), (n10, _), (n7, _), (n4, _), (n3, _)] (fun i => 2 - i) 0 (by omega) rfl (.c rfl .n) (.c rfl (.c rfl (.c rfl (.c rfl (.c rfl (.c rfl (.c rfl (.c rfl (.c rfl (.c rfl (.c rfl (.c rfl (.c rfl (.c rfl (.c rfl (.c rfl (.c rfl (.c rfl (.c rfl (.c rfl (.c rfl (.c rfl (.c rfl (.c rfl (.c rfl (.c rfl (.c rfl (.c rfl (.c rfl (.c rfl (.c rfl (.c rfl (.c rfl (.c rfl (.c rfl (.c rfl (.c rfl (.c rfl (.c rfl (.c rfl (.c rfl (.c rfl (.c rfl (.c rfl (.c rfl (.c rfl (.c rfl (.c rfl (.c rfl (.c rfl (.c rfl (.c rfl (.c rfl (.c rfl (.c rfl (.c rfl (.c rfl (.c rfl (.c rfl (.c rfl (.c rfl (.c rfl (.c rfl (.c rfl (.c rfl (.c rfl (.c rfl (.c rfl (.c rfl (.c rfl (.c rfl (.c rfl (.c rfl (.c rfl (.c rfl (.c rfl (.c rfl (.c rfl (.c rfl (.c rfl (.c rfl (.c rfl (.c rfl (.c rfl (.c rfl (.c rfl (.c rfl (.c rfl (.c rfl (.c rfl (.c rfl (.c rfl (.c rfl (.c rfl (.c rfl (.c rfl (.c rfl (.c rfl (.c rfl (.c rfl (.c rfl (.c rfl (.c rfl (.c rfl (.c rfl (.c rfl (.c rfl (.c rfl (.c rfl (.c rfl (.c rfl (.c rfl (.c rfl (.c rfl (.c rfl (.c rfl (.c rfl (.c rfl (.c rfl (.c rfl (.c rfl (.c rfl .n)))))))))))))))))))))))))))))))))))))))))))))))))))))))))))))))))))))))))))))))))))))))))))))))))))))))))))))))))))))))))) (.c 0 rfl (.c 0 rfl (.c 0 rfl (.c 0 rfl (.c 0 rfl (.c 0 rfl (.c 0 rfl (.c 0 rfl .n)))))))) ?_
              rintro i hi
              refine kSeq ?_
              refine kRegion rfl ?_
              refine lV (yLss rfl rfl) rfl rfl ?_
              refine lNil ?_
              refine kThen ?_
              refine kSeq ?_
              refine split (t := 172) rfl (fun h172 => ?_) (fun h172 => ?_)
              · refine kIfT rfl ?_
                refine kSkip ?_
                refine kThen ?_
                refine kSeq ?_
                refine kBlock ?_
                refine kSeq ?_
                refine kRegion rfl ?_
                refine lV (yIndexSl rfl rfl S41 (by omega) (by omega)) rfl rfl ?_
                refine lV (yLoad1 rfl O3 (cOwn 0 rfl (two_at (by omega)))) rfl rfl ?_
                refine lV (yAssign rfl) rfl rfl ?_
                refine lNil ?_
                obtain ⟨v, hv⟩ : ∃ v : Int, v = if i = 0 then (sumsF m (fullS m)).1 - 1 else (sumsF m (fullS m)).2 + 1 := ⟨_, rfl⟩
                rw [← hv]
                have hv' : v = (sumsF m (fullS m)).1 - 1 ∨ v = (sumsF m (fullS m)).2 + 1 := by rw [hv]; split <;> simp
                clear hv
                refine kThen ?_
                refine kSeq ?_
                refine kSeq ?_
                refine kRegion rfl ?_
                refine lV (yMove rfl) rfl rfl ?_
                refine lV (yFieldAddr rfl F29_2) rfl rfl ?_
                refine lV (yFieldAddr rfl F24_0) rfl rfl ?_
                refine lV (yLoad1 rfl O3 (cOwn 7 rfl rfl)) rfl rfl ?_
                refine lV (yLss rfl rfl) rfl rfl ?_
                refine lV (yMove rfl) rfl rfl ?_
                refine split (t := 180) rfl (fun h180 => ?_) (fun h180 => ?_)
                · refine lGN rfl rfl rfl rfl rfl ?_
                  refine lGN rfl rfl rfl rfl rfl ?_
                  refine lGN rfl rfl rfl rfl rfl ?_
                  refine lGN rfl rfl rfl rfl rfl ?_
                  refine lGN rfl rfl rfl rfl rfl ?_
                  refine lV (yPickT rfl rfl) rfl rfl ?_
                  refine lNil ?_
                  refine kThen ?_
                  refine kIfT rfl ?_
                  refine kExit ?_
                  refine kThenX ?_
                  refine kInX ?_
                  refine kThen ?_
                  refine kRegion rfl ?_
                  refine lV (yAdd rfl rfl (by omega)) rfl rfl ?_
                  refine lV (yMove rfl) rfl rfl ?_
                  refine lNil ?_
                  exact kRoundX (i + 1) (by omega) (by omega) rfl (.c rfl .n) (.c rfl (.c rfl (.c rfl (.c rfl (.c rfl (.c rfl (.c rfl (.c rfl (.c rfl (.c rfl (.c rfl (.c rfl (.c rfl (.c rfl (.c rfl (.c rfl (.c rfl (.c rfl (.c rfl (.c rfl (.c rfl (.c rfl (.c rfl (.c rfl (.c rfl (.c rfl (.c rfl (.c rfl (.c rfl (.c rfl (.c rfl (.c rfl (.c rfl (.c rfl (.c rfl (.c rfl (.c rfl (.c rfl (.c rfl (.c rfl (.c rfl (.c rfl (.c rfl (.c rfl (.c rfl (.c rfl (.c rfl (.c rfl (.c rfl (.c rfl (.c rfl (.c rfl (.c rfl (.c rfl (.c rfl (.c rfl (.c rfl (.c rfl (.c rfl (.c rfl (.c rfl (.c rfl (.c rfl (.c rfl (.c rfl (.c rfl (.c rfl (.c rfl (.c rfl (.c rfl (.c rfl (.c rfl (.c rfl (.c rfl (.c rfl (.c rfl (.c rfl (.c rfl (.c rfl (.c rfl (.c rfl (.c rfl (.c rfl (.c rfl (.c rfl (.c rfl (.c rfl (.c rfl (.c rfl (.c rfl (.c rfl (.c rfl (.c rfl (.c rfl (.c rfl (.c rfl (.c rfl (.c rfl (.c rfl (.c rfl (.c rfl (.c rfl (.c rfl (.c rfl (.c rfl (.c rfl (.c rfl (.c rfl (.c rfl (.c rfl (.c rfl (.c rfl (.c rfl (.c rfl (.c rfl (.c rfl (.c rfl (.c rfl (.c rfl (.c rfl (.c rfl (.c rfl .n)))))))))))))))))))))))))))))))))))))))))))))))))))))))))))))))))))))))))))))))))))))))))))))))))))))))))))))))))))))))))) (.c 0 rfl (.c 0 rfl (.c 0 rfl (.c 0 rfl (.c 0 rfl (.c 0 rfl (.c 0 rfl (.c 0 rfl .n))))))))
                · refine lGY rfl rfl rfl (oV (yMove rfl) rfl ?_)
                  refine lGY rfl rfl rfl (oV (yFieldAddr rfl F29_2) rfl ?_)
                  refine lGY rfl rfl rfl (oV (yFieldAddr rfl F24_1) rfl ?_)
                  refine lGY rfl rfl rfl (oV (yLoad1 rfl O3 (cOwn 7 rfl rfl)) rfl ?_)
                  refine lGY rfl rfl rfl (oV (yGtr rfl rfl) rfl ?_)
                  refine lV (yPickF rfl rfl) rfl rfl ?_
                  refine lNil ?_
                  refine kThen ?_
                  refine split (t := 186) rfl (fun h186 => ?_) (fun h186 => ?_)
                  · refine kIfT rfl ?_
                    refine kExit ?_
                    refine kThenX ?_
                    refine kInX ?_
                    refine kThen ?_
                    refine kRegion rfl ?_
                    refine lV (yAdd rfl rfl (by omega)) rfl rfl ?_
                    refine lV (yMove rfl) rfl rfl ?_
                    refine lNil ?_
                    exact kRoundX (i + 1) (by omega) (by omega) rfl (.c rfl .n) (.c rfl (.c rfl (.c rfl (.c rfl (.c rfl (.c rfl (.c rfl (.c rfl (.c rfl (.c rfl (.c rfl (.c rfl (.c rfl (.c rfl (.c rfl (.c rfl (.c rfl (.c rfl (.c rfl (.c rfl (.c rfl (.c rfl (.c rfl (.c rfl (.c rfl (.c rfl (.c rfl (.c rfl (.c rfl (.c rfl (.c rfl (.c rfl (.c rfl (.c rfl (.c rfl (.c rfl (.c rfl (.c rfl (.c rfl (.c rfl (.c rfl (.c rfl (.c rfl (.c rfl (.c rfl (.c rfl (.c rfl (.c rfl (.c rfl (.c rfl (.c rfl (.c rfl (.c rfl (.c rfl (.c rfl (.c rfl (.c rfl (.c rfl (.c rfl (.c rfl (.c rfl (.c rfl (.c rfl (.c rfl (.c rfl (.c rfl (.c rfl (.c rfl (.c rfl (.c rfl (.c rfl (.c rfl (.c rfl (.c rfl (.c rfl (.c rfl (.c rfl (.c rfl (.c rfl (.c rfl (.c rfl (.c rfl (.c rfl (.c rfl (.c rfl (.c rfl (.c rfl (.c rfl (.c rfl (.c rfl (.c rfl (.c rfl (.c rfl (.c rfl (.c rfl (.c rfl (.c rfl (.c rfl (.c rfl (.c rfl (.c rfl (.c rfl (.c rfl (.c rfl (.c rfl (.c rfl (.c rfl (.c rfl (.c rfl (.c rfl (.c rfl (.c rfl (.c rfl (.c rfl (.c rfl (.c rfl (.c rfl (.c rfl (.c rfl (.c rfl (.c rfl (.c rfl .n)))))))))))))))))))))))))))))))))))))))))))))))))))))))))))))))))))))))))))))))))))))))))))))))))))))))))))))))))))))))))) (.c 0 rfl (.c 0 rfl (.c 0 rfl (.c 0 rfl (.c 0 rfl (.c 0 rfl (.c 0 rfl (.c 0 rfl .n))))))))
                  · refine kIfF rfl ?_
                    refine kSkip ?_
                    refine kThen ?_
                    refine kSeq ?_
                    have hwo := with_out hM (n := v) (by omega) (by omega) a
                    refine kRegion rfl ?_
                    refine lV (yMove rfl) rfl rfl ?_
                    refine lV (yMove rfl) rfl rfl ?_
                    refine lV (yCall rfl (.c rfl .n) C29 (fun w hw => with_any n3 n4 y m a v w (hm.eff hw) (hw.blkAt 7 rfl) (hw.blkAt 6 rfl))) rfl rfl ?_
                    refine lV (yMove rfl) rfl rfl ?_
                    refine lV (yExtract rfl rfl) rfl rfl ?_
                    refine lV (yExtract rfl rfl) rfl rfl ?_
                    refine lE rfl ?_
                    refine eAlloc Z24 fun n20 => ?_
                    refine lE rfl ?_
                    refine eStoreL 0 rfl rfl rfl rfl K24 rfl (rfl) ?_
                    refine lV (yAssign rfl) rfl rfl ?_
                    refine lNil ?_
                    refine kThen ?_
                    refine kSeq ?_
                    refine kRegion rfl ?_
                    refine lV (yMove rfl) rfl rfl ?_
                    refine lV (yNeq rfl rfl) rfl rfl ?_
                    refine lV (yMove rfl) rfl rfl ?_
                    refine split (t := 195) rfl (fun h195 => ?_) (fun h195 => ?_)
                    · refine lGY rfl rfl rfl (oV (yMove rfl) rfl ?_)
                      refine lGY rfl rfl rfl (oV (yNeq rfl rfl) rfl ?_)
                      refine knownN (t := 197) rfl (by omega) ?_
                      refine lV (yPickT rfl rfl) rfl rfl ?_
                      refine lNil ?_
                      refine kThen ?_
                      refine kIfF rfl ?_
                      refine kSkip ?_
                      refine kInN ?_
                      refine kThen ?_
                      refine kRegion rfl ?_
                      refine lV (yAdd rfl rfl (by omega)) rfl rfl ?_
                      refine lV (yMove rfl) rfl rfl ?_
                      refine lNil ?_
                      exact kRoundX (i + 1) (by omega) (by omega) rfl (.c rfl .n) (.c rfl (.c rfl (.c rfl (.c rfl (.c rfl (.c rfl (.c rfl (.c rfl (.c rfl (.c rfl (.c rfl (.c rfl (.c rfl (.c rfl (.c rfl (.c rfl (.c rfl (.c rfl (.c rfl (.c rfl (.c rfl (.c rfl (.c rfl (.c rfl (.c rfl (.c rfl (.c rfl (.c rfl (.c rfl (.c rfl (.c rfl (.c rfl (.c rfl (.c rfl (.c rfl (.c rfl (.c rfl (.c rfl (.c rfl (.c rfl (.c rfl (.c rfl (.c rfl (.c rfl (.c rfl (.c rfl (.c rfl (.c rfl (.c rfl (.c rfl (.c rfl (.c rfl (.c rfl (.c rfl (.c rfl (.c rfl (.c rfl (.c rfl (.c rfl (.c rfl (.c rfl (.c rfl (.c rfl (.c rfl (.c rfl (.c rfl (.c rfl (.c rfl (.c rfl (.c rfl (.c rfl (.c rfl (.c rfl (.c rfl (.c rfl (.c rfl (.c rfl (.c rfl (.c rfl (.c rfl (.c rfl (.c rfl (.c rfl (.c rfl (.c rfl (.c rfl (.c rfl (.c rfl (.c rfl (.c rfl (.c rfl (.c rfl (.c rfl (.c rfl (.c rfl (.c rfl (.c rfl (.c rfl (.c rfl (.c rfl (.c rfl (.c rfl (.c rfl (.c rfl (.c rfl (.c rfl (.c rfl (.c rfl (.c rfl (.c rfl (.c rfl (.c rfl (.c rfl (.c rfl (.c rfl (.c rfl (.c rfl (.c rfl (.c rfl (.c rfl (.c rfl (.c rfl .n)))))))))))))))))))))))))))))))))))))))))))))))))))))))))))))))))))))))))))))))))))))))))))))))))))))))))))))))))))))))))) (.c 1 rfl (.c 1 rfl (.c 1 rfl (.c 1 rfl (.c 1 rfl (.c 1 rfl (.c 1 rfl (.c 1 rfl .n))))))))
                    · refine lGN rfl rfl rfl rfl rfl ?_
                      refine lGN rfl rfl rfl rfl rfl ?_
                      refine lV (yPickF rfl rfl) rfl rfl ?_
                      refine lNil ?_
                      refine kThen ?_
                      refine kIfF rfl ?_
                      refine kSkip ?_
                      refine kInN ?_
                      refine kThen ?_
                      refine kRegion rfl ?_
                      refine lV (yAdd rfl rfl (by omega)) rfl rfl ?_
                      refine lV (yMove rfl) rfl rfl ?_
                      refine lNil ?_
                      exact kRoundX (i + 1) (by omega) (by omega) rfl (.c rfl .n) (.c rfl (.c rfl (.c rfl (.c rfl (.c rfl (.c rfl (.c rfl (.c rfl (.c rfl (.c rfl (.c rfl (.c rfl (.c rfl (.c rfl (.c rfl (.c rfl (.c rfl (.c rfl (.c rfl (.c rfl (.c rfl (.c rfl (.c rfl (.c rfl (.c rfl (.c rfl (.c rfl (.c rfl (.c rfl (.c rfl (.c rfl (.c rfl (.c rfl (.c rfl (.c rfl (.c rfl (.c rfl (.c rfl (.c rfl (.c rfl (.c rfl (.c rfl (.c rfl (.c rfl (.c rfl (.c rfl (.c rfl (.c rfl (.c rfl (.c rfl (.c rfl (.c rfl (.c rfl (.c rfl (.c rfl (.c rfl (.c rfl (.c rfl (.c rfl (.c rfl (.c rfl (.c rfl (.c rfl (.c rfl (.c rfl (.c rfl (.c rfl (.c rfl (.c rfl (.c rfl (.c rfl (.c rfl (.c rfl (.c rfl (.c rfl (.c rfl (.c rfl (.c rfl (.c rfl (.c rfl (.c rfl (.c rfl (.c rfl (.c rfl (.c rfl (.c rfl (.c rfl (.c rfl (.c rfl (.c rfl (.c rfl (.c rfl (.c rfl (.c rfl (.c rfl (.c rfl (.c rfl (.c rfl (.c rfl (.c rfl (.c rfl (.c rfl (.c rfl (.c rfl (.c rfl (.c rfl (.c rfl (.c rfl (.c rfl (.c rfl (.c rfl (.c rfl (.c rfl (.c rfl (.c rfl (.c rfl (.c rfl (.c rfl (.c rfl (.c rfl (.c rfl (.c rfl .n)))))))))))))))))))))))))))))))))))))))))))))))))))))))))))))))))))))))))))))))))))))))))))))))))))))))))))))))))))))))))) (.c 1 rfl (.c 1 rfl (.c 1 rfl (.c 1 rfl (.c 1 rfl (.c 1 rfl (.c 1 rfl (.c 1 rfl .n))))))))
              · refine kIfF rfl ?_
                refine kExit ?_
                refine kThenX ?_
                refine kThenX ?_
                refine kInX ?_
                refine kThen ?_
                refine kSeq ?_
                refine kRegion rfl ?_
                refine lV (yCall rfl .n C15 (fun w hw => alive_any w)) rfl rfl ?_
                refine lV (yAssign rfl) rfl rfl ?_
                refine lNil ?_
                refine kThen ?_
                refine kRet ?_
                refine fRet rfl (.t rfl .n) (endRet ?_)
                first | rfl | (simp [packV, *]; done)
          · refine lGN rfl rfl rfl rfl rfl ?_
            refine lGN rfl rfl rfl rfl rfl ?_
            refine lV (yPickF rfl rfl) rfl rfl ?_
            refine lNil ?_
            refine kThen ?_
            refine kIfF rfl ?_
            refine kSkip ?_
            refine kThen ?_
            refine kSeq ?_
            refine kRegion rfl ?_
            refine lV (yMove rfl) rfl rfl ?_
            refine lV (yFieldAddr rfl F24_0) rfl rfl ?_
            refine lV (yLoad1 rfl O3 (cOwn 1 rfl rfl)) rfl rfl ?_
            refine lV (yCall rfl (.c rfl .n) C29 (fun w hw => with_any n3 n4 y m a (sumsF m (fullS m)).1 w (hm.eff hw) (hw.blkAt 3 rfl) (hw.blkAt 2 rfl))) rfl rfl ?_
            refine same (t := 89) (u := outV (if endF m a = 0 then placesF m (fullS m) a (sumsF m (fullS m)).1 else (0, 0)).1 (if endF m a = 0 then placesF m (fullS m) a (sumsF m (fullS m)).1 else (0, 0)).2 (endF m a)) rfl (by rw [with_in hM ⟨Int.le_refl _, ho'⟩]) ?_
            refine lV (yMove rfl) rfl rfl ?_
            refine lV (yExtract rfl rfl) rfl rfl ?_
            refine lV (yExtract rfl rfl) rfl rfl ?_
            refine lE rfl ?_
            refine eAlloc Z24 fun n12 => ?_
            refine lE rfl ?_
            refine eStoreL 0 rfl rfl rfl rfl K24 rfl (rfl) ?_
            refine lV (yAssign rfl) rfl rfl ?_
            refine lNil ?_
            refine kThen ?_
            refine kSeq ?_
            refine kRegion rfl ?_
            refine lV (yMove rfl) rfl rfl ?_
            refine lV (yFieldAddr rfl F24_1) rfl rfl ?_
            refine lV (yLoad1 rfl O3 (cOwn 2 rfl rfl)) rfl rfl ?_
            refine lV (yCall rfl (.c rfl .n) C29 (fun w hw => with_any n3 n4 y m a (sumsF m (fullS m)).2 w (hm.eff hw) (hw.blkAt 4 rfl) (hw.blkAt 3 rfl))) rfl rfl ?_
            refine same (t := 96) (u := outV (if endF m a = 0 then placesF m (fullS m) a (sumsF m (fullS m)).2 else (0, 0)).1 (if endF m a = 0 then placesF m (fullS m) a (sumsF m (fullS m)).2 else (0, 0)).2 (endF m a)) rfl (by rw [with_in hM ⟨ho', Int.le_refl _⟩]) ?_
            refine lV (yMove rfl) rfl rfl ?_
            refine lV (yExtract rfl rfl) rfl rfl ?_
            refine lV (yExtract rfl rfl) rfl rfl ?_
            refine lE rfl ?_
            refine eAlloc Z24 fun n14 => ?_
            refine lE rfl ?_
            refine eStoreL 0 rfl rfl rfl rfl K24 rfl (rfl) ?_
            refine lV (yAssign rfl) rfl rfl ?_
            refine lNil ?_
            refine kThen ?_
            refine kSeq ?_
            refine kDrawE [(2, none), (6, none), (8, none), (13, none)] [] [0, 1, 2, 3, 4, 5, 6, 7, 8, 9, 10, 11, 12, 13, 14, 15, 16, 19] 2 hMix (by kernel_rfl) ?_
            refine .run rfl (yMove rfl) rfl rfl ?_
            refine .run rfl (yFieldAddr rfl F24_0) rfl rfl ?_
            refine .run rfl (yLoad1 rfl O3 (cOwn 3 rfl rfl)) rfl rfl ?_
            refine .run rfl (yMove rfl) rfl rfl ?_
            refine .run rfl (yConvInt rfl U51 U3 (conv_ok (by omega))) rfl rfl ?_
            refine .run rfl (yFieldAddr rfl F24_1) rfl rfl ?_
            refine .run rfl (yLoad1 rfl O3 (cOwn 3 rfl rfl)) rfl rfl ?_
            refine .run rfl (yFieldAddr rfl F24_0) rfl rfl ?_
            refine .run rfl (yLoad1 rfl O3 (cOwn 3 rfl rfl)) rfl rfl ?_
            refine .run rfl (ySub rfl rfl (by omega)) rfl rfl ?_
            refine .run rfl (yAdd rfl rfl (by omega)) rfl rfl ?_
            refine .run rfl (yRem rfl rfl (by omega) (by omega)) rfl rfl ?_
            refine .run rfl (yAdd rfl rfl (by omega)) rfl rfl ?_
            refine .run rfl (yvSame (u := outV (if endF m a = 0 then placesF m (fullS m) a ((sumsF m (fullS m)).1 + (b : Int) % ((sumsF m (fullS m)).2 - (sumsF m (fullS m)).1 + 1)) else (0, 0)).1 (if endF m a = 0 then placesF m (fullS m) a ((sumsF m (fullS m)).1 + (b : Int) % ((sumsF m (fullS m)).2 - (sumsF m (fullS m)).1 + 1)) else (0, 0)).2 (endF m a)) (yCall rfl (.c rfl .n) C29 (fun w hw => with_any n3 n4 y m a ((sumsF m (fullS m)).1 + (b : Int) % ((sumsF m (fullS m)).2 - (sumsF m (fullS m)).1 + 1)) w (hm.eff hw) (hw.blkAt 5 rfl) (hw.blkAt 4 rfl))) (by rw [with_in hM ⟨by omega, by omega⟩])) rfl rfl ?_
            refine .run rfl (yMove rfl) rfl rfl ?_
            refine .run rfl (yExtract rfl rfl) rfl rfl ?_
            refine .run rfl (yExtract rfl rfl) rfl rfl ?_
            refine .run rfl (yAssign rfl) rfl rfl ?_
            refine .done ?_
            refine effStep 17 [] (by kernel_rfl) closedSt (hLeft [2, 6, 8, 13] (by kernel_rfl) (.c (fun _ _ hs => hs.ef) (.c (fun _ _ hs => hs.ef) (.c (fun _ _ hs => hs.ef) (.c (fun _ _ hs => hs.ef) .n))))) ?_
            refine .c ?_ .n
            refine effOne rfl (gNone rfl (fAlloc Z24)) ?_
            refine effStep 18 [] (by kernel_rfl) (closedEx fun n16 => closedSt) (hLeft [2, 6, 8, 13] (by kernel_rfl) (.c (fun _ _ ⟨n16, hs⟩ => hs.ef.sub (.c 1 rfl (.c 1 rfl (.c 1 rfl (.c 1 rfl (.c 1 rfl (.c 1 rfl .n))))))) (.c (fun _ _ ⟨n16, hs⟩ => hs.ef.sub (.c 1 rfl (.c 1 rfl (.c 1 rfl (.c 1 rfl (.c 1 rfl (.c 1 rfl .n))))))) (.c (fun _ _ ⟨n16, hs⟩ => hs.ef.sub (.c 1 rfl (.c 1 rfl (.c 1 rfl (.c 1 rfl (.c 1 rfl (.c 1 rfl .n))))))) (.c (fun _ _ ⟨n16, hs⟩ => hs.ef.sub (.c 1 rfl (.c 1 rfl (.c 1 rfl (.c 1 rfl (.c 1 rfl (.c 1 rfl .n))))))) .n))))) ?_
            refine .c ?_ .n
            refine effOne rfl (opEx fun n16 => (gNone rfl (fStoreL 0 rfl rfl rfl rfl K24 rfl (rfl)))) ?_
            refine effDone (closedEx fun n16 => closedSt) (hLeft [] (by kernel_rfl) .n) (by kernel_rfl) ?_
            refine trEx fun n16 => ?_
            refine kThen ?_
            refine kSeq ?_
            refine kSeq ?_
            refine kRegion rfl ?_
            refine lV (yMove rfl) rfl rfl ?_
            refine lV (yMove rfl) rfl rfl ?_
            refine lV (yNeq rfl rfl) rfl rfl ?_
            refine knownN (t := 118) rfl (fun h => h rfl) ?_
            refine lV (yMove rfl) rfl rfl ?_
            refine lGY rfl rfl rfl (oV (yMove rfl) rfl ?_)
            refine lGY rfl rfl rfl (oV (yMove rfl) rfl ?_)
            refine lGY rfl rfl rfl (oV (yNeq rfl rfl) rfl ?_)
            refine knownN (t := 122) rfl (fun h => h rfl) ?_
            refine lV (yPickF rfl rfl) rfl rfl ?_
            refine lV (yMove rfl) rfl rfl ?_
            refine lGY rfl rfl rfl (oV (yMove rfl) rfl ?_)
            refine lGY rfl rfl rfl (oV (yMove rfl) rfl ?_)
            refine lGY rfl rfl rfl (oV (yNeq rfl rfl) rfl ?_)
            refine knownN (t := 127) rfl (fun h => h rfl) ?_
            refine lV (yPickF rfl rfl) rfl rfl ?_
            refine lNil ?_
            refine kThen ?_
            refine kIfF rfl ?_
            refine kSkip ?_
            refine kThen ?_
            refine kSeq ?_
            refine kSeq ?_
            refine kRegion rfl ?_
            refine lV (yMove rfl) rfl rfl ?_
            refine lV (yEql rfl rfl) rfl rfl ?_
            refine lNil ?_
            refine kThen ?_
            refine split (t := 130) rfl (fun h130 => ?_) (fun h130 => ?_)
            · simp only [if_pos h130]
              have hp2 := hpe.2.2 _ (show (sumsF m (fullS m)).1 ≤ (sumsF m (fullS m)).1 + (b : Int) % ((sumsF m (fullS m)).2 - (sumsF m (fullS m)).1 + 1) by omega) (by omega)
              have hp3 := places_mono m (fullS m) a ho'
              have hp4 := hpe.1
              have hp5 := hpe.2.1
              refine kIfT rfl ?_
              refine kSeq ?_
              refine kRegion rfl ?_
              refine lV (yFieldAddr rfl F24_0) rfl rfl ?_
              refine lV (yLoad1 rfl O3 (cOwn 0 rfl rfl)) rfl rfl ?_
              refine lV (yFieldAddr rfl F24_0) rfl rfl ?_
              refine lV (yLoad1 rfl O3 (cOwn 3 rfl rfl)) rfl rfl ?_
              refine lV (yLss rfl rfl) rfl rfl ?_
              refine knownN (t := 135) rfl (by omega) ?_
              refine lV (yMove rfl) rfl rfl ?_
              refine lGY rfl rfl rfl (oV (yFieldAddr rfl F24_1) rfl ?_)
              refine lGY rfl rfl rfl (oV (yLoad1 rfl O3 (cOwn 0 rfl rfl)) rfl ?_)
              refine lGY rfl rfl rfl (oV (yFieldAddr rfl F24_1) rfl ?_)
              refine lGY rfl rfl rfl (oV (yLoad1 rfl O3 (cOwn 3 rfl rfl)) rfl ?_)
              refine lGY rfl rfl rfl (oV (yGtr rfl rfl) rfl ?_)
              refine knownN (t := 141) rfl (by omega) ?_
              refine lV (yPickF rfl rfl) rfl rfl ?_
              refine lV (yMove rfl) rfl rfl ?_
              refine lGY rfl rfl rfl (oV (yFieldAddr rfl F24_0) rfl ?_)
              refine lGY rfl rfl rfl (oV (yLoad1 rfl O3 (cOwn 2 rfl rfl)) rfl ?_)
              refine lGY rfl rfl rfl (oV (yFieldAddr rfl F24_0) rfl ?_)
              refine lGY rfl rfl rfl (oV (yLoad1 rfl O3 (cOwn 1 rfl rfl)) rfl ?_)
              refine lGY rfl rfl rfl (oV (yMin rfl rfl) rfl ?_)
              refine lGY rfl rfl rfl (oV (yFieldAddr rfl F24_0) rfl ?_)
              refine lGY rfl rfl rfl (oV (yLoad1 rfl O3 (cOwn 3 rfl rfl)) rfl ?_)
              refine lGY rfl rfl rfl (oV (yNeq rfl rfl) rfl ?_)
              refine knownN (t := 151) rfl (by omega) ?_
              refine lV (yPickF rfl rfl) rfl rfl ?_
              refine lV (yMove rfl) rfl rfl ?_
              refine lGY rfl rfl rfl (oV (yFieldAddr rfl F24_1) rfl ?_)
              refine lGY rfl rfl rfl (oV (yLoad1 rfl O3 (cOwn 2 rfl rfl)) rfl ?_)
              refine lGY rfl rfl rfl (oV (yFieldAddr rfl F24_1) rfl ?_)
              refine lGY rfl rfl rfl (oV (yLoad1 rfl O3 (cOwn 1 rfl rfl)) rfl ?_)
              refine lGY rfl rfl rfl (oV (yMax rfl rfl) rfl ?_)
              refine lGY rfl rfl rfl (oV (yFieldAddr rfl F24_1) rfl ?_)
              refine lGY rfl rfl rfl (oV (yLoad1 rfl O3 (cOwn 3 rfl rfl)) rfl ?_)
              refine lGY rfl rfl rfl (oV (yNeq rfl rfl) rfl ?_)
              refine knownN (t := 161) rfl (by omega) ?_
              refine lV (yPickF rfl rfl) rfl rfl ?_
              refine lNil ?_
              refine kThen ?_
              refine kIfF rfl ?_
              refine kSkip ?_
              refine kThen ?_
              refine kSeq ?_
              refine kSeq ?_
              refine kRegion rfl ?_
              refine lV (yFieldAddr rfl F24_0) rfl rfl ?_
              refine lV (yLoad1 rfl O3 (cOwn 4 rfl rfl)) rfl rfl ?_
              refine lV (ySub rfl rfl (by omega)) rfl rfl ?_
              refine lV (yFieldAddr rfl F24_1) rfl rfl ?_
              refine lV (yLoad1 rfl O3 (cOwn 4 rfl rfl)) rfl rfl ?_
              refine lV (yAdd rfl rfl (by omega)) rfl rfl ?_
              refine lE rfl ?_
              refine eBuildSlice (.c rfl (.c rfl .n)) (fun w => BS41_2_0_1 w) fun n169 => ?_
              refine lV (yLen rfl S41) rfl rfl ?_
              refine lV (yMove rfl) rfl rfl ?_
              refine lNil ?_
              refine kThen ?_
              refine kBlock ?_
              refine kLoopX (ι := Nat) (fun i => i ≤ 2) (fun i => [(171, i64 (i : Nat))]) [(0, _), (1, _), (2, _), (3, _), (4, _), (22, _), (23, _), (24, _), (25, _), (26, _), (27, _), (28, _), (31, _), (32, _), (30, _), (33, _), (34, _), (7, _), (8, _), (35, _), (36, _), (47, _), (48, _), (49, _), (50, _), (51, _), (52, _), (53, _), (54, _), (55, _), (56, _), (57, _), (58, _), (59, _), (60, _), (61, _), (62, _), (63, _), (64, _), (65, _), (66, _), (67, _), (68, _), (9, _), (70, _), (71, _), (72, _), (69, _), (73, _), (74, _), (10, _), (11, _), (75, _), (76, _), (77, _), (78, _), (79, _), (80, _), (81, _), (84, _), (86, _), (87, _), (88, _), (89, _), (85, _), (90, _), (91, _), (12, _), (13, _), (93, _), (94, _), (95, _), (96, _), (92, _), (97, _), (98, _), (14, _), (15, _), (100, _), (101, _), (102, _), (103, _), (104, _), (105, _), (106, _), (107, _), (108, _), (109, _), (110, _), (111, _), (112, _), (113, _), (99, _), (114, _), (115, _), (17, _), (16, _), (116, _), (117, _), (118, _), (119, _), (120, _), (121, _), (122, _), (123, _), (124, _), (125, _), (126, _), (127, _), (128, _), (129, _), (130, _), (131, _), (132, _), (133, _), (134, _), (135, _), (136, _), (137, _), (138, _), (139, _), (140, _), (141, _), (142, _), (143, _), (144, _), (145, _), (146, _), (147, _), (148, _), (149, _), (150, _), (151, _), (152, _), (153, _), (154, _), (155, _), (156, _), (157, _), (158, _), (159, _), (160, _), (161, _), (162, _), (163, _), (164, _), (165, _), (166, _), (167, _), (168, _), (169, _), (170, _)] (fun i => []) (fun i => []) [(n169, _), (n16, _), (n14, _), (n12, _), (n10, _), (n7, _), (n4, _), (n3, _)] (fun i => 2 - i) 0 (by omega) rfl (.c rfl .n) (.c rfl (.c rfl (.c rfl (.c rfl (.c rfl (.c rfl (.c rfl (.c rfl (.c rfl (.c rfl (.c rfl (.c rfl (.c rfl (.c rfl (.c rfl (.c rfl (.c rfl (.c rfl (.c rfl (.c rfl (.c rfl (.c rfl (.c rfl (.c rfl (.c rfl (.c rfl (.c rfl (.c rfl (.c rfl (.c rfl (.c rfl (.c rfl (.c rfl (.c rfl (.c rfl (.c rfl (.c rfl (.c rfl (.c rfl (.c rfl (.c rfl (.c rfl (.c rfl (.c rfl (.c rfl (.c rfl (.c rfl (.c rfl (.c rfl (.c rfl (.c rfl (.c rfl (.c rfl (.c rfl (.c rfl (.c rfl (.c rfl (.c rfl (.c rfl (.c rfl (.c rfl (.c rfl (.c rfl (.c rfl (.c rfl (.c rfl (.c rfl (.c rfl (.c rfl (.c rfl (.c rfl (.c rfl (.c rfl (.c rfl (.c rfl (.c rfl (.c rfl (.c rfl (.c rfl (.c rfl (.c rfl (.c rfl (.c rfl (.c rfl (.c rfl (.c rfl (.c rfl (.c rfl (.c rfl (.c rfl (.c rfl (.c rfl (.c rfl (.c rfl (.c rfl (.c rfl (.c rfl (.c rfl (.c rfl (.c rfl (.c rfl (.c rfl (.c rfl (.c rfl (.c rfl (.c rfl (.c rfl (.c rfl (.c rfl (.c rfl (.c rfl (.c rfl (.c rfl (.c rfl (.c rfl (.c rfl (.c rfl (.c rfl (.c rfl (.c rfl (.c rfl (.c rfl (.c rfl (.c rfl (.c rfl (.c rfl (.c rfl (.c rfl (.c rfl (.c rfl (.c rfl (.c rfl (.c rfl (.c rfl (.c rfl (.c rfl (.c rfl (.c rfl (.c rfl (.c rfl (.c rfl (.c rfl (.c rfl (.c rfl (.c rfl (.c rfl (.c rfl (.c rfl (.c rfl (.c rfl (.c rfl (.c rfl .n)))))))))))))))))))))))))))))))))))))))))))))))))))))))))))))))))))))))))))))))))))))))))))))))))))))))))))))))))))))))))))))))))))))))))))))))))))))))) (.c 0 rfl (.c 0 rfl (.c 0 rfl (.c 0 rfl (.c 0 rfl (.c 0 rfl (.c 0 rfl (.c 0 rfl .n)))))))) ?_
              rintro i hi
              refine kSeq ?_
              refine kRegion rfl ?_
              refine lV (yLss rfl rfl) rfl rfl ?_
              refine lNil ?_
              refine kThen ?_
              refine kSeq ?_
              refine split (t := 172) rfl (fun h172 => ?_) (fun h172 => ?_)
              · refine kIfT rfl ?_
                refine kSkip ?_
                refine kThen ?_
                refine kSeq ?_
                refine kBlock ?_
                refine kSeq ?_
                refine kRegion rfl ?_
                refine lV (yIndexSl rfl rfl S41 (by omega) (by omega)) rfl rfl ?_
                refine lV (yLoad1 rfl O3 (cOwn 0 rfl (two_at (by omega)))) rfl rfl ?_
                refine lV (yAssign rfl) rfl rfl ?_
                refine lNil ?_
                obtain ⟨v, hv⟩ : ∃ v : Int, v = if i = 0 then (sumsF m (fullS m)).1 - 1 else (sumsF m (fullS m)).2 + 1 := ⟨_, rfl⟩
                rw [← hv]
                have hv' : v = (sumsF m (fullS m)).1 - 1 ∨ v = (sumsF m (fullS m)).2 + 1 := by rw [hv]; split <;> simp
                clear hv
                refine kThen ?_
                refine kSeq ?_
                refine kSeq ?_
                refine kRegion rfl ?_
                refine lV (yMove rfl) rfl rfl ?_
                refine lV (yFieldAddr rfl F29_2) rfl rfl ?_
                refine lV (yFieldAddr rfl F24_0) rfl rfl ?_
                refine lV (yLoad1 rfl O3 (cOwn 7 rfl rfl)) rfl rfl ?_
                refine lV (yLss rfl rfl) rfl rfl ?_
                refine lV (yMove rfl) rfl rfl ?_
                refine split (t := 180) rfl (fun h180 => ?_) (fun h180 => ?_)
                · refine lGN rfl rfl rfl rfl rfl ?_
                  refine lGN rfl rfl rfl rfl rfl ?_
                  refine lGN rfl rfl rfl rfl rfl ?_
                  refine lGN rfl rfl rfl rfl rfl ?_
                  refine lGN rfl rfl rfl rfl rfl ?_
                  refine lV (yPickT rfl rfl) rfl rfl ?_
                  refine lNil ?_
                  refine kThen ?_
                  refine kIfT rfl ?_
                  refine kExit ?_
                  refine kThenX ?_
                  refine kInX ?_
                  refine kThen ?_
                  refine kRegion rfl ?_
                  refine lV (yAdd rfl rfl (by omega)) rfl rfl ?_
                  refine lV (yMove rfl) rfl rfl ?_
                  refine lNil ?_
                  exact kRoundX (i + 1) (by omega) (by omega) rfl (.c rfl .n) (.c rfl (.c rfl (.c rfl (.c rfl (.c rfl (.c rfl (.c rfl (.c rfl (.c rfl (.c rfl (.c rfl (.c rfl (.c rfl (.c rfl (.c rfl (.c rfl (.c rfl (.c rfl (.c rfl (.c rfl (.c rfl (.c rfl (.c rfl (.c rfl (.c rfl (.c rfl (.c rfl (.c rfl (.c rfl (.c rfl (.c rfl (.c rfl (.c rfl (.c rfl (.c rfl (.c rfl (.c rfl (.c rfl (.c rfl (.c rfl (.c rfl (.c rfl (.c rfl (.c rfl (.c rfl (.c rfl (.c rfl (.c rfl (.c rfl (.c rfl (.c rfl (.c rfl (.c rfl (.c rfl (.c rfl (.c rfl (.c rfl (.c rfl (.c rfl (.c rfl (.c rfl (.c rfl (.c rfl (.c rfl (.c rfl (.c rfl (.c rfl (.c rfl (.c rfl (.c rfl (.c rfl (.c rfl (.c rfl (.c rfl (.c rfl (.c rfl (.c rfl (.c rfl (.c rfl (.c rfl (.c rfl (.c rfl (.c rfl (.c rfl (.c rfl (.c rfl (.c rfl (.c rfl (.c rfl (.c rfl (.c rfl (.c rfl (.c rfl (.c rfl (.c rfl (.c rfl (.c rfl (.c rfl (.c rfl (.c rfl (.c rfl (.c rfl (.c rfl (.c rfl (.c rfl (.c rfl (.c rfl (.c rfl (.c rfl (.c rfl (.c rfl (.c rfl (.c rfl (.c rfl (.c rfl (.c rfl (.c rfl (.c rfl (.c rfl (.c rfl (.c rfl (.c rfl (.c rfl (.c rfl (.c rfl (.c rfl (.c rfl (.c rfl (.c rfl (.c rfl (.c rfl (.c rfl (.c rfl (.c rfl (.c rfl (.c rfl (.c rfl (.c rfl (.c rfl (.c rfl (.c rfl (.c rfl (.c rfl (.c rfl (.c rfl (.c rfl (.c rfl (.c rfl (.c rfl (.c rfl (.c rfl (.c rfl .n)))))))))))))))))))))))))))))))))))))))))))))))))))))))))))))))))))))))))))))))))))))))))))))))))))))))))))))))))))))))))))))))))))))))))))))))))))))))) (.c 0 rfl (.c 0 rfl (.c 0 rfl (.c 0 rfl (.c 0 rfl (.c 0 rfl (.c 0 rfl (.c 0 rfl .n))))))))
                · refine lGY rfl rfl rfl (oV (yMove rfl) rfl ?_)
                  refine lGY rfl rfl rfl (oV (yFieldAddr rfl F29_2) rfl ?_)
                  refine lGY rfl rfl rfl (oV (yFieldAddr rfl F24_1) rfl ?_)
                  refine lGY rfl rfl rfl (oV (yLoad1 rfl O3 (cOwn 7 rfl rfl)) rfl ?_)
                  refine lGY rfl rfl rfl (oV (yGtr rfl rfl) rfl ?_)
                  refine lV (yPickF rfl rfl) rfl rfl ?_
                  refine lNil ?_
                  refine kThen ?_
                  refine split (t := 186) rfl (fun h186 => ?_) (fun h186 => ?_)
                  · refine kIfT rfl ?_
                    refine kExit ?_
                    refine kThenX ?_
                    refine kInX ?_
                    refine kThen ?_
                    refine kRegion rfl ?_
                    refine lV (yAdd rfl rfl (by omega)) rfl rfl ?_
                    refine lV (yMove rfl) rfl rfl ?_
                    refine lNil ?_
                    exact kRoundX (i + 1) (by omega) (by omega) rfl (.c rfl .n) (.c rfl (.c rfl (.c rfl (.c rfl (.c rfl (.c rfl (.c rfl (.c rfl (.c rfl (.c rfl (.c rfl (.c rfl (.c rfl (.c rfl (.c rfl (.c rfl (.c rfl (.c rfl (.c rfl (.c rfl (.c rfl (.c rfl (.c rfl (.c rfl (.c rfl (.c rfl (.c rfl (.c rfl (.c rfl (.c rfl (.c rfl (.c rfl (.c rfl (.c rfl (.c rfl (.c rfl (.c rfl (.c rfl (.c rfl (.c rfl (.c rfl (.c rfl (.c rfl (.c rfl (.c rfl (.c rfl (.c rfl (.c rfl (.c rfl (.c rfl (.c rfl (.c rfl (.c rfl (.c rfl (.c rfl (.c rfl (.c rfl (.c rfl (.c rfl (.c rfl (.c rfl (.c rfl (.c rfl (.c rfl (.c rfl (.c rfl (.c rfl (.c rfl (.c rfl (.c rfl (.c rfl (.c rfl (.c rfl (.c rfl (.c rfl (.c rfl (.c rfl (.c rfl (.c rfl (.c rfl (.c rfl (.c rfl (.c rfl (.c rfl (.c rfl (.c rfl (.c rfl (.c rfl (.c rfl (.c rfl (.c rfl (.c rfl (.c rfl (.c rfl (.c rfl (.c rfl (.c rfl (.c rfl (.c rfl (.c rfl (.c rfl (.c rfl (.c rfl (.c rfl (.c rfl (.c rfl (.c rfl (.c rfl (.c rfl (.c rfl (.c rfl (.c rfl (.c rfl (.c rfl (.c rfl (.c rfl (.c rfl (.c rfl (.c rfl (.c rfl (.c rfl (.c rfl (.c rfl (.c rfl (.c rfl (.c rfl (.c rfl (.c rfl (.c rfl (.c rfl (.c rfl (.c rfl (.c rfl (.c rfl (.c rfl (.c rfl (.c rfl (.c rfl (.c rfl (.c rfl (.c rfl (.c rfl (.c rfl (.c rfl (.c rfl (.c rfl (.c rfl (.c rfl (.c rfl (.c rfl (.c rfl (.c rfl .n)))))))))))))))))))))))))))))))))))))))))))))))))))))))))))))))))))))))))))))))))))))))))))))))))))))))))))))))))))))))))))))))))))))))))))))))))))))))) (.c 0 rfl (.c 0 rfl (.c 0 rfl (.c 0 rfl (.c 0 rfl (.c 0 rfl (.c 0 rfl (.c 0 rfl .n))))))))
                  · refine kIfF rfl ?_
                    refine kSkip ?_
                    refine kThen ?_
                    refine kSeq ?_
                    have hwo := with_out hM (n := v) (by omega) (by omega) a
                    refine kRegion rfl ?_
                    refine lV (yMove rfl) rfl rfl ?_
                    refine lV (yMove rfl) rfl rfl ?_
                    refine lV (yCall rfl (.c rfl .n) C29 (fun w hw => with_any n3 n4 y m a v w (hm.eff hw) (hw.blkAt 7 rfl) (hw.blkAt 6 rfl))) rfl rfl ?_
                    refine lV (yMove rfl) rfl rfl ?_
                    refine lV (yExtract rfl rfl) rfl rfl ?_
                    refine lV (yExtract rfl rfl) rfl rfl ?_
                    refine lE rfl ?_
                    refine eAlloc Z24 fun n20 => ?_
                    refine lE rfl ?_
                    refine eStoreL 0 rfl rfl rfl rfl K24 rfl (rfl) ?_
                    refine lV (yAssign rfl) rfl rfl ?_
                    refine lNil ?_
                    refine kThen ?_
                    refine kSeq ?_
                    refine kRegion rfl ?_
                    refine lV (yMove rfl) rfl rfl ?_
                    refine lV (yNeq rfl rfl) rfl rfl ?_
                    refine lV (yMove rfl) rfl rfl ?_
                    refine split (t := 195) rfl (fun h195 => ?_) (fun h195 => ?_)
                    · refine lGY rfl rfl rfl (oV (yMove rfl) rfl ?_)
                      refine lGY rfl rfl rfl (oV (yNeq rfl rfl) rfl ?_)
                      refine knownN (t := 197) rfl (by omega) ?_
                      refine lV (yPickT rfl rfl) rfl rfl ?_
                      refine lNil ?_
                      refine kThen ?_
                      refine kIfF rfl ?_
                      refine kSkip ?_
                      refine kInN ?_
                      refine kThen ?_
                      refine kRegion rfl ?_
                      refine lV (yAdd rfl rfl (by omega)) rfl rfl ?_
                      refine lV (yMove rfl) rfl rfl ?_
                      refine lNil ?_
                      exact kRoundX (i + 1) (by omega) (by omega) rfl (.c rfl .n) (.c rfl (.c rfl (.c rfl (.c rfl (.c rfl (.c rfl (.c rfl (.c rfl (.c rfl (.c rfl (.c rfl (.c rfl (.c rfl (.c rfl (.c rfl (.c rfl (.c rfl (.c rfl (.c rfl (.c rfl (.c rfl (.c rfl (.c rfl (.c rfl (.c rfl (.c rfl (.c rfl (.c rfl (.c rfl (.c rfl (.c rfl (.c rfl (.c rfl (.c rfl (.c rfl (.c rfl (.c rfl (.c rfl (.c rfl (.c rfl (.c rfl (.c rfl (.c rfl (.c rfl (.c rfl (.c rfl (.c rfl (.c rfl (.c rfl (.c rfl (.c rfl (.c rfl (.c rfl (.c rfl (.c rfl (.c rfl (.c rfl (.c rfl (.c rfl (.c rfl (.c rfl (.c rfl (.c rfl (.c rfl (.c rfl (.c rfl (.c rfl (.c rfl (.c rfl (.c rfl (.c rfl (.c rfl (.c rfl (.c rfl (.c rfl (.c rfl (.c rfl (.c rfl (.c rfl (.c rfl (.c rfl (.c rfl (.c rfl (.c rfl (.c rfl (.c rfl (.c rfl (.c rfl (.c rfl (.c rfl (.c rfl (.c rfl (.c rfl (.c rfl (.c rfl (.c rfl (.c rfl (.c rfl (.c rfl (.c rfl (.c rfl (.c rfl (.c rfl (.c rfl (.c rfl (.c rfl (.c rfl (.c rfl (.c rfl (.c rfl (.c rfl (.c rfl (.c rfl (.c rfl (.c rfl (.c rfl (.c rfl (.c rfl (.c rfl (.c rfl (.c rfl (.c rfl (.c rfl (.c rfl (.c rfl (.c rfl (.c rfl (.c rfl (.c rfl (.c rfl (.c rfl (.c rfl (.c rfl (.c rfl (.c rfl (.c rfl (.c rfl (.c rfl (.c rfl (.c rfl (.c rfl (.c rfl (.c rfl (.c rfl (.c rfl (.c rfl (.c rfl (.c rfl (.c rfl (.c rfl (.c rfl (.c rfl .n)))))))))))))))))))))))))))))))))))))))))))))))))))))))))))))))))))))))))))))))))))))))))))))))))))))))))))))))))))))))))))))))))))))))))))))))))))))))) (.c 1 rfl (.c 1 rfl (.c 1 rfl (.c 1 rfl (.c 1 rfl (.c 1 rfl (.c 1 rfl (.c 1 rfl .n))))))))
                    · refine lGN rfl rfl rfl rfl rfl ?_
                      refine lGN rfl rfl rfl rfl rfl ?_
                      refine lV (yPickF rfl rfl) rfl rfl ?_
                      refine lNil ?_
                      refine kThen ?_
                      refine kIfF rfl ?_
                      refine kSkip ?_
                      refine kInN ?_
                      refine kThen ?_
                      refine kRegion rfl ?_
                      refine lV (yAdd rfl rfl (by omega)) rfl rfl ?_
                      refine lV (yMove rfl) rfl rfl ?_
                      refine lNil ?_
                      exact kRoundX (i + 1) (by omega) (by omega) rfl (.c rfl .n) (.c rfl (.c rfl (.c rfl (.c rfl (.c rfl (.c rfl (.c rfl (.c rfl (.c rfl (.c rfl (.c rfl (.c rfl (.c rfl (.c rfl (.c rfl (.c rfl (.c rfl (.c rfl (.c rfl (.c rfl (.c rfl (.c rfl (.c rfl (.c rfl (.c rfl (.c rfl (.c rfl (.c rfl (.c rfl (.c rfl (.c rfl (.c rfl (.c rfl (.c rfl (.c rfl (.c rfl (.c rfl (.c rfl (.c rfl (.c rfl (.c rfl (.c rfl (.c rfl (.c rfl (.c rfl (.c rfl (.c rfl (.c rfl (.c rfl (.c rfl (.c rfl (.c rfl (.c rfl (.c rfl (.c rfl (.c rfl (.c rfl (.c rfl (.c rfl (.c rfl (.c rfl (.c rfl (.c rfl (.c rfl (.c rfl (.c rfl (.c rfl (.c rfl (.c rfl (.c rfl (.c rfl (.c rfl (.c rfl (.c rfl (.c rfl (.c rfl (.c rfl (.c rfl (.c rfl (.c rfl (.c rfl (.c rfl (.c rfl (.c rfl (.c rfl (.c rfl (.c rfl (.c rfl (.c rfl (.c rfl (.c rfl (.c rfl (.c rfl (.c rfl (.c rfl (.c rfl (.c rfl (.c rfl (.c rfl (.c rfl (.c rfl (.c rfl (.c rfl (.c rfl (.c rfl (.c rfl (.c rfl (.c rfl (.c rfl (.c rfl (.c rfl (.c rfl (.c rfl (.c rfl (.c rfl (.c rfl (.c rfl (.c rfl (.c rfl (.c rfl (.c rfl (.c rfl (.c rfl (.c rfl (.c rfl (.c rfl (.c rfl (.c rfl (.c rfl (.c rfl (.c rfl (.c rfl (.c rfl (.c rfl (.c rfl (.c rfl (.c rfl (.c rfl (.c rfl (.c rfl (.c rfl (.c rfl (.c rfl (.c rfl (.c rfl (.c rfl (.c rfl (.c rfl (.c rfl (.c rfl (.c rfl (.c rfl .n)))))))))))))))))))))))))))))))))))))))))))))))))))))))))))))))))))))))))))))))))))))))))))))))))))))))))))))))))))))))))))))))))))))))))))))))))))))))) (.c 1 rfl (.c 1 rfl (.c 1 rfl (.c 1 rfl (.c 1 rfl (.c 1 rfl (.c 1 rfl (.c 1 rfl .n))))))))
              · refine kIfF rfl ?_
                refine kExit ?_
                refine kThenX ?_
                refine kThenX ?_
                refine kInX ?_
                refine kThen ?_
                refine kSeq ?_
                refine kRegion rfl ?_
                refine lV (yCall rfl .n C15 (fun w hw => alive_any w)) rfl rfl ?_
                refine lV (yAssign rfl) rfl rfl ?_
                refine lNil ?_
                refine kThen ?_
                refine kRet ?_
                refine fRet rfl (.t rfl .n) (endRet ?_)
                first | rfl | (simp [packV, *]; done)
            · refine kIfF rfl ?_
              refine kSkip ?_
              refine kThen ?_
              refine kSeq ?_
              refine kSeq ?_
              refine kRegion rfl ?_
              refine lV (yFieldAddr rfl F24_0) rfl rfl ?_
              refine lV (yLoad1 rfl O3 (cOwn 4 rfl rfl)) rfl rfl ?_
              refine lV (ySub rfl rfl (by omega)) rfl rfl ?_
              refine lV (yFieldAddr rfl F24_1) rfl rfl ?_
              refine lV (yLoad1 rfl O3 (cOwn 4 rfl rfl)) rfl rfl ?_
              refine lV (yAdd rfl rfl (by omega)) rfl rfl ?_
              refine lE rfl ?_
              refine eBuildSlice (.c rfl (.c rfl .n)) (fun w => BS41_2_0_1 w) fun n169 => ?_
              refine lV (yLen rfl S41) rfl rfl ?_
              refine lV (yMove rfl) rfl rfl ?_
              refine lNil ?_
              refine kThen ?_
              refine kBlock ?_
              refine kLoopX (ι := Nat) (fun i => i ≤ 2) (fun i => [(171, i64 (i : Nat))]) [(0, _), (1, _), (2, _), (3, _), (4, _), (22, _), (23, _), (24, _), (25, _), (26, _), (27, _), (28, _), (31, _), (32, _), (30, _), (33, _), (34, _), (7, _), (8, _), (35, _), (36, _), (47, _), (48, _), (49, _), (50, _), (51, _), (52, _), (53, _), (54, _), (55, _), (56, _), (57, _), (58, _), (59, _), (60, _), (61, _), (62, _), (63, _), (64, _), (65, _), (66, _), (67, _), (68, _), (9, _), (70, _), (71, _), (72, _), (69, _), (73, _), (74, _), (10, _), (11, _), (75, _), (76, _), (77, _), (78, _), (79, _), (80, _), (81, _), (84, _), (86, _), (87, _), (88, _), (89, _), (85, _), (90, _), (91, _), (12, _), (13, _), (93, _), (94, _), (95, _), (96, _), (92, _), (97, _), (98, _), (14, _), (15, _), (100, _), (101, _), (102, _), (103, _), (104, _), (105, _), (106, _), (107, _), (108, _), (109, _), (110, _), (111, _), (112, _), (113, _), (99, _), (114, _), (115, _), (17, _), (16, _), (116, _), (117, _), (118, _), (119, _), (120, _), (121, _), (122, _), (123, _), (124, _), (125, _), (126, _), (127, _), (128, _), (129, _), (130, _), (163, _), (164, _), (165, _), (166, _), (167, _), (168, _), (169, _), (170, _)] (fun i => []) (fun i => []) [(n169, _), (n16, _), (n14, _), (n12, _), (n10, _), (n7, _), (n4, _), (n3, _)] (fun i => 2 - i) 0 (by omega) rfl (.c rfl .n) (.c rfl (.c rfl (.c rfl (.c rfl (.c rfl (.c rfl (.c rfl (.c rfl (.c rfl (.c rfl (.c rfl (.c rfl (.c rfl (.c rfl (.c rfl (.c rfl (.c rfl (.c rfl (.c rfl (.c rfl (.c rfl (.c rfl (.c rfl (.c rfl (.c rfl (.c rfl (.c rfl (.c rfl (.c rfl (.c rfl (.c rfl (.c rfl (.c rfl (.c rfl (.c rfl (.c rfl (.c rfl (.c rfl (.c rfl (.c rfl (.c rfl (.c rfl (.c rfl (.c rfl (.c rfl (.c rfl (.c rfl (.c rfl (.c rfl (.c rfl (.c rfl (.c rfl (.c rfl (.c rfl (.c rfl (.c rfl (.c rfl (.c rfl (.c rfl (.c rfl (.c rfl (.c rfl (.c rfl (.c rfl (.c rfl (.c rfl (.c rfl (.c rfl (.c rfl (.c rfl (.c rfl (.c rfl (.c rfl (.c rfl (.c rfl (.c rfl (.c rfl (.c rfl (.c rfl (.c rfl (.c rfl (.c rfl (.c rfl (.c rfl (.c rfl (.c rfl (.c rfl (.c rfl (.c rfl (.c rfl (.c rfl (.c rfl (.c rfl (.c rfl (.c rfl (.c rfl (.c rfl (.c rfl (.c rfl (.c rfl (.c rfl (.c rfl (.c rfl (.c rfl (.c rfl (.c rfl (.c rfl (.c rfl (.c rfl (.c rfl (.c rfl (.c rfl (.c rfl (.c rfl (.c rfl (.c rfl (.c rfl (.c rfl (.c rfl (.c rfl .n)))))))))))))))))))))))))))))))))))))))))))))))))))))))))))))))))))))))))))))))))))))))))))))))))))))))))))))))))))))))) (.c 0 rfl (.c 0 rfl (.c 0 rfl (.c 0 rfl (.c 0 rfl (.c 0 rfl (.c 0 rfl (.c 0 rfl .n)))))))) ?_
              rintro i hi
              refine kSeq ?_
              refine kRegion rfl ?_
              refine lV (yLss rfl rfl) rfl rfl ?_
              refine lNil ?_
              refine kThen ?_
              refine kSeq ?_
              refine split (t := 172) rfl (fun h172 => ?_) (fun h172 => ?_)
              · refine kIfT rfl ?_
                refine kSkip ?_
                refine kThen ?_
                refine kSeq ?_
                refine kBlock ?_
                refine kSeq ?_
                refine kRegion rfl ?_
                refine lV (yIndexSl rfl rfl S41 (by omega) (by omega)) rfl rfl ?_
                refine lV (yLoad1 rfl O3 (cOwn 0 rfl (two_at (by omega)))) rfl rfl ?_
                refine lV (yAssign rfl) rfl rfl ?_
                refine lNil ?_
                obtain ⟨v, hv⟩ : ∃ v : Int, v = if i = 0 then (sumsF m (fullS m)).1 - 1 else (sumsF m (fullS m)).2 + 1 := ⟨_, rfl⟩
                rw [← hv]
                have hv' : v = (sumsF m (fullS m)).1 - 1 ∨ v = (sumsF m (fullS m)).2 + 1 := by rw [hv]; split <;> simp
                clear hv
                refine kThen ?_
                refine kSeq ?_
                refine kSeq ?_
                refine kRegion rfl ?_
                refine lV (yMove rfl) rfl rfl ?_
                refine lV (yFieldAddr rfl F29_2) rfl rfl ?_
                refine lV (yFieldAddr rfl F24_0) rfl rfl ?_
                refine lV (yLoad1 rfl O3 (cOwn 7 rfl rfl)) rfl rfl ?_
                refine lV (yLss rfl rfl) rfl rfl ?_
                refine lV (yMove rfl) rfl rfl ?_
                refine split (t := 180) rfl (fun h180 => ?_) (fun h180 => ?_)
                · refine lGN rfl rfl rfl rfl rfl ?_
                  refine lGN rfl rfl rfl rfl rfl ?_
                  refine lGN rfl rfl rfl rfl rfl ?_
                  refine lGN rfl rfl rfl rfl rfl ?_
                  refine lGN rfl rfl rfl rfl rfl ?_
                  refine lV (yPickT rfl rfl) rfl rfl ?_
                  refine lNil ?_
                  refine kThen ?_
                  refine kIfT rfl ?_
                  refine kExit ?_
                  refine kThenX ?_
                  refine kInX ?_
                  refine kThen ?_
                  refine kRegion rfl ?_
                  refine lV (yAdd rfl rfl (by omega)) rfl rfl ?_
                  refine lV (yMove rfl) rfl rfl ?_
                  refine lNil ?_
                  exact kRoundX (i + 1) (by omega) (by omega) rfl (.c rfl .n) (.c rfl (.c rfl (.c rfl (.c rfl (.c rfl (.c rfl (.c rfl (.c rfl (.c rfl (.c rfl (.c rfl (.c rfl (.c rfl (.c rfl (.c rfl (.c rfl (.c rfl (.c rfl (.c rfl (.c rfl (.c rfl (.c rfl (.c rfl (.c rfl (.c rfl (.c rfl (.c rfl (.c rfl (.c rfl (.c rfl (.c rfl (.c rfl (.c rfl (.c rfl (.c rfl (.c rfl (.c rfl (.c rfl (.c rfl (.c rfl (.c rfl (.c rfl (.c rfl (.c rfl (.c rfl (.c rfl (.c rfl (.c rfl (.c rfl (.c rfl (.c rfl (.c rfl (.c rfl (.c rfl (.c rfl (.c rfl (.c rfl (.c rfl (.c rfl (.c rfl (.c rfl (.c rfl (.c rfl (.c rfl (.c rfl (.c rfl (.c rfl (.c rfl (.c rfl (.c rfl (.c rfl (.c rfl (.c rfl (.c rfl (.c rfl (.c rfl (.c rfl (.c rfl (.c rfl (.c rfl (.c rfl (.c rfl (.c rfl (.c rfl (.c rfl (.c rfl (.c rfl (.c rfl (.c rfl (.c rfl (.c rfl (.c rfl (.c rfl (.c rfl (.c rfl (.c rfl (.c rfl (.c rfl (.c rfl (.c rfl (.c rfl (.c rfl (.c rfl (.c rfl (.c rfl (.c rfl (.c rfl (.c rfl (.c rfl (.c rfl (.c rfl (.c rfl (.c rfl (.c rfl (.c rfl (.c rfl (.c rfl (.c rfl (.c rfl (.c rfl .n)))))))))))))))))))))))))))))))))))))))))))))))))))))))))))))))))))))))))))))))))))))))))))))))))))))))))))))))))))))))) (.c 0 rfl (.c 0 rfl (.c 0 rfl (.c 0 rfl (.c 0 rfl (.c 0 rfl (.c 0 rfl (.c 0 rfl .n))))))))
                · refine lGY rfl rfl rfl (oV (yMove rfl) rfl ?_)
                  refine lGY rfl rfl rfl (oV (yFieldAddr rfl F29_2) rfl ?_)
                  refine lGY rfl rfl rfl (oV (yFieldAddr rfl F24_1) rfl ?_)
                  refine lGY rfl rfl rfl (oV (yLoad1 rfl O3 (cOwn 7 rfl rfl)) rfl ?_)
                  refine lGY rfl rfl rfl (oV (yGtr rfl rfl) rfl ?_)
                  refine lV (yPickF rfl rfl) rfl rfl ?_
                  refine lNil ?_
                  refine kThen ?_
                  refine split (t := 186) rfl (fun h186 => ?_) (fun h186 => ?_)
                  · refine kIfT rfl ?_
                    refine kExit ?_
                    refine kThenX ?_
                    refine kInX ?_
                    refine kThen ?_
                    refine kRegion rfl ?_
                    refine lV (yAdd rfl rfl (by omega)) rfl rfl ?_
                    refine lV (yMove rfl) rfl rfl ?_
                    refine lNil ?_
                    exact kRoundX (i + 1) (by omega) (by omega) rfl (.c rfl .n) (.c rfl (.c rfl (.c rfl (.c rfl (.c rfl (.c rfl (.c rfl (.c rfl (.c rfl (.c rfl (.c rfl (.c rfl (.c rfl (.c rfl (.c rfl (.c rfl (.c rfl (.c rfl (.c rfl (.c rfl (.c rfl (.c rfl (.c rfl (.c rfl (.c rfl (.c rfl (.c rfl (.c rfl (.c rfl (.c rfl (.c rfl (.c rfl (.c rfl (.c rfl (.c rfl (.c rfl (.c rfl (.c rfl (.c rfl (.c rfl (.c rfl (.c rfl (.c rfl (.c rfl (.c rfl (.c rfl (.c rfl (.c rfl (.c rfl (.c rfl (.c rfl (.c rfl (.c rfl (.c rfl (.c rfl (.c rfl (.c rfl (.c rfl (.c rfl (.c rfl (.c rfl (.c rfl (.c rfl (.c rfl (.c rfl (.c rfl (.c rfl (.c rfl (.c rfl (.c rfl (.c rfl (.c rfl (.c rfl (.c rfl (.c rfl (.c rfl (.c rfl (.c rfl (.c rfl (.c rfl (.c rfl (.c rfl (.c rfl (.c rfl (.c rfl (.c rfl (.c rfl (.c rfl (.c rfl (.c rfl (.c rfl (.c rfl (.c rfl (.c rfl (.c rfl (.c rfl (.c rfl (.c rfl (.c rfl (.c rfl (.c rfl (.c rfl (.c rfl (.c rfl (.c rfl (.c rfl (.c rfl (.c rfl (.c rfl (.c rfl (.c rfl (.c rfl (.c rfl (.c rfl (.c rfl (.c rfl (.c rfl (.c rfl (.c rfl (.c rfl .n)))))))))))))))))))))))))))))))))))))))))))))))))))))))))))))))))))))))))))))))))))))))))))))))))))))))))))))))))))))))) (.c 0 rfl (.c 0 rfl (.c 0 rfl (.c 0 rfl (.c 0 rfl (.c 0 rfl (.c 0 rfl (.c 0 rfl .n))))))))
                  · refine kIfF rfl ?_
                    refine kSkip ?_
                    refine kThen ?_
                    refine kSeq ?_
                    have hwo := with_out hM (n := v) (by omega) (by omega) a
                    refine kRegion rfl ?_
                    refine lV (yMove rfl) rfl rfl ?_
                    refine lV (yMove rfl) rfl rfl ?_
                    refine lV (yCall rfl (.c rfl .n) C29 (fun w hw => with_any n3 n4 y m a v w (hm.eff hw) (hw.blkAt 7 rfl) (hw.blkAt 6 rfl))) rfl rfl ?_
                    refine lV (yMove rfl) rfl rfl ?_
                    refine lV (yExtract rfl rfl) rfl rfl ?_
                    refine lV (yExtract rfl rfl) rfl rfl ?_
                    refine lE rfl ?_
                    refine eAlloc Z24 fun n20 => ?_
                    refine lE rfl ?_
                    refine eStoreL 0 rfl rfl rfl rfl K24 rfl (rfl) ?_
                    refine lV (yAssign rfl) rfl rfl ?_
                    refine lNil ?_
                    refine kThen ?_
                    refine kSeq ?_
                    refine kRegion rfl ?_
                    refine lV (yMove rfl) rfl rfl ?_
                    refine lV (yNeq rfl rfl) rfl rfl ?_
                    refine lV (yMove rfl) rfl rfl ?_
                    refine split (t := 195) rfl (fun h195 => ?_) (fun h195 => ?_)
                    · refine lGY rfl rfl rfl (oV (yMove rfl) rfl ?_)
                      refine lGY rfl rfl rfl (oV (yNeq rfl rfl) rfl ?_)
                      refine knownN (t := 197) rfl (by omega) ?_
                      refine lV (yPickT rfl rfl) rfl rfl ?_
                      refine lNil ?_
                      refine kThen ?_
                      refine kIfF rfl ?_
                      refine kSkip ?_
                      refine kInN ?_
                      refine kThen ?_
                      refine kRegion rfl ?_
                      refine lV (yAdd rfl rfl (by omega)) rfl rfl ?_
                      refine lV (yMove rfl) rfl rfl ?_
                      refine lNil ?_
                      exact kRoundX (i + 1) (by omega) (by omega) rfl (.c rfl .n) (.c rfl (.c rfl (.c rfl (.c rfl (.c rfl (.c rfl (.c rfl (.c rfl (.c rfl (.c rfl (.c rfl (.c rfl (.c rfl (.c rfl (.c rfl (.c rfl (.c rfl (.c rfl (.c rfl (.c rfl (.c rfl (.c rfl (.c rfl (.c rfl (.c rfl (.c rfl (.c rfl (.c rfl (.c rfl (.c rfl (.c rfl (.c rfl (.c rfl (.c rfl (.c rfl (.c rfl (.c rfl (.c rfl (.c rfl (.c rfl (.c rfl (.c rfl (.c rfl (.c rfl (.c rfl (.c rfl (.c rfl (.c rfl (.c rfl (.c rfl (.c rfl (.c rfl (.c rfl (.c rfl (.c rfl (.c rfl (.c rfl (.c rfl (.c rfl (.c rfl (.c rfl (.c rfl (.c rfl (.c rfl (.c rfl (.c rfl (.c rfl (.c rfl (.c rfl (.c rfl (.c rfl (.c rfl (.c rfl (.c rfl (.c rfl (.c rfl (.c rfl (.c rfl (.c rfl (.c rfl (.c rfl (.c rfl (.c rfl (.c rfl (.c rfl (.c rfl (.c rfl (.c rfl (.c rfl (.c rfl (.c rfl (.c rfl (.c rfl (.c rfl (.c rfl (.c rfl (.c rfl (.c rfl (.c rfl (.c rfl (.c rfl (.c rfl (.c rfl (.c rfl (.c rfl (.c rfl (.c rfl (.c rfl (.c rfl (.c rfl (.c rfl (.c rfl (.c rfl (.c rfl (.c rfl (.c rfl (.c rfl (.c rfl (.c rfl (.c rfl .n)))))))))))))))))))))))))))))))))))))))))))))))))))))))))))))))))))))))))))))))))))))))))))))))))))))))))))))))))))))))) (.c 1 rfl (.c 1 rfl (.c 1 rfl (.c 1 rfl (.c 1 rfl (.c 1 rfl (.c 1 rfl (.c 1 rfl .n))))))))
                    · refine lGN rfl rfl rfl rfl rfl ?_
                      refine lGN rfl rfl rfl rfl rfl ?_
                      refine lV (yPickF rfl rfl) rfl rfl ?_
                      refine lNil ?_
                      refine kThen ?_
                      refine kIfF rfl ?_
                      refine kSkip ?_
                      refine kInN ?_
                      refine kThen ?_
                      refine kRegion rfl ?_
                      refine lV (yAdd rfl rfl (by omega)) rfl rfl ?_
                      refine lV (yMove rfl) rfl rfl ?_
                      refine lNil ?_
                      exact kRoundX (i + 1) (by omega) (by omega) rfl (.c rfl .n) (.c rfl (.c rfl (.c rfl (.c rfl (.c rfl (.c rfl (.c rfl (.c rfl (.c rfl (.c rfl (.c rfl (.c rfl (.c rfl (.c rfl (.c rfl (.c rfl (.c rfl (.c rfl (.c rfl (.c rfl (.c rfl (.c rfl (.c rfl (.c rfl (.c rfl (.c rfl (.c rfl (.c rfl (.c rfl (.c rfl (.c rfl (.c rfl (.c rfl (.c rfl (.c rfl (.c rfl (.c rfl (.c rfl (.c rfl (.c rfl (.c rfl (.c rfl (.c rfl (.c rfl (.c rfl (.c rfl (.c rfl (.c rfl (.c rfl (.c rfl (.c rfl (.c rfl (.c rfl (.c rfl (.c rfl (.c rfl (.c rfl (.c rfl (.c rfl (.c rfl (.c rfl (.c rfl (.c rfl (.c rfl (.c rfl (.c rfl (.c rfl (.c rfl (.c rfl (.c rfl (.c rfl (.c rfl (.c rfl (.c rfl (.c rfl (.c rfl (.c rfl (.c rfl (.c rfl (.c rfl (.c rfl (.c rfl (.c rfl (.c rfl (.c rfl (.c rfl (.c rfl (.c rfl (.c rfl (.c rfl (.c rfl (.c rfl (.c rfl (.c rfl (.c rfl (.c rfl (.c rfl (.c rfl (.c rfl (.c rfl (.c rfl (.c rfl (.c rfl (.c rfl (.c rfl (.c rfl (.c rfl (.c rfl (.c rfl (.c rfl (.c rfl (.c rfl (.c rfl (.c rfl (.c rfl (.c rfl (.c rfl (.c rfl (.c rfl (.c rfl .n)))))))))))))))))))))))))))))))))))))))))))))))))))))))))))))))))))))))))))))))))))))))))))))))))))))))))))))))))))))))) (.c 1 rfl (.c 1 rfl (.c 1 rfl (.c 1 rfl (.c 1 rfl (.c 1 rfl (.c 1 rfl (.c 1 rfl .n))))))))
              · refine kIfF rfl ?_
                refine kExit ?_
                refine kThenX ?_
                refine kThenX ?_
                refine kInX ?_
                refine kThen ?_
                refine kSeq ?_
                refine kRegion rfl ?_
                refine lV (yCall rfl .n C15 (fun w hw => alive_any w)) rfl rfl ?_
                refine lV (yAssign rfl) rfl rfl ?_
                refine lNil ?_
                refine kThen ?_
                refine kRet ?_
                refine fRet rfl (.t rfl .n) (endRet ?_)
                first | rfl | (simp [packV, *]; done)
        · refine lGN rfl rfl rfl rfl rfl ?_
          refine lGN rfl rfl rfl rfl rfl ?_
          refine lV (yPickF rfl rfl) rfl rfl ?_
          refine lV (yMove rfl) rfl rfl ?_
          refine lGN rfl rfl rfl rfl rfl ?_
          refine lGN rfl rfl rfl rfl rfl ?_
          refine lV (yPickF rfl rfl) rfl rfl ?_
          refine lNil ?_
          refine kThen ?_
          refine kIfF rfl ?_
          refine kSkip ?_
          refine kThen ?_
          refine kSeq ?_
          refine kRegion rfl ?_
          refine lV (yMove rfl) rfl rfl ?_
          refine lV (yFieldAddr rfl F24_0) rfl rfl ?_
          refine lV (yLoad1 rfl O3 (cOwn 1 rfl rfl)) rfl rfl ?_
          refine lV (yCall rfl (.c rfl .n) C29 (fun w hw => with_any n3 n4 y m a (sumsF m (fullS m)).1 w (hm.eff hw) (hw.blkAt 3 rfl) (hw.blkAt 2 rfl))) rfl rfl ?_
          refine same (t := 89) (u := outV (if endF m a = 0 then placesF m (fullS m) a (sumsF m (fullS m)).1 else (0, 0)).1 (if endF m a = 0 then placesF m (fullS m) a (sumsF m (fullS m)).1 else (0, 0)).2 (endF m a)) rfl (by rw [with_in hM ⟨Int.le_refl _, ho'⟩]) ?_
          refine lV (yMove rfl) rfl rfl ?_
          refine lV (yExtract rfl rfl) rfl rfl ?_
          refine lV (yExtract rfl rfl) rfl rfl ?_
          refine lE rfl ?_
          refine eAlloc Z24 fun n12 => ?_
          refine lE rfl ?_
          refine eStoreL 0 rfl rfl rfl rfl K24 rfl (rfl) ?_
          refine lV (yAssign rfl) rfl rfl ?_
          refine lNil ?_
          refine kThen ?_
          refine kSeq ?_
          refine kRegion rfl ?_
          refine lV (yMove rfl) rfl rfl ?_
          refine lV (yFieldAddr rfl F24_1) rfl rfl ?_
          refine lV (yLoad1 rfl O3 (cOwn 2 rfl rfl)) rfl rfl ?_
          refine lV (yCall rfl (.c rfl .n) C29 (fun w hw => with_any n3 n4 y m a (sumsF m (fullS m)).2 w (hm.eff hw) (hw.blkAt 4 rfl) (hw.blkAt 3 rfl))) rfl rfl ?_
          refine same (t := 96) (u := outV (if endF m a = 0 then placesF m (fullS m) a (sumsF m (fullS m)).2 else (0, 0)).1 (if endF m a = 0 then placesF m (fullS m) a (sumsF m (fullS m)).2 else (0, 0)).2 (endF m a)) rfl (by rw [with_in hM ⟨ho', Int.le_refl _⟩]) ?_
          refine lV (yMove rfl) rfl rfl ?_
          refine lV (yExtract rfl rfl) rfl rfl ?_
          refine lV (yExtract rfl rfl) rfl rfl ?_
          refine lE rfl ?_
          refine eAlloc Z24 fun n14 => ?_
          refine lE rfl ?_
          refine eStoreL 0 rfl rfl rfl rfl K24 rfl (rfl) ?_
          refine lV (yAssign rfl) rfl rfl ?_
          refine lNil ?_
          refine kThen ?_
          refine kSeq ?_
          refine kDrawE [(2, none), (6, none), (8, none), (13, none)] [] [0, 1, 2, 3, 4, 5, 6, 7, 8, 9, 10, 11, 12, 13, 14, 15, 16, 19] 2 hMix (by kernel_rfl) ?_
          refine .run rfl (yMove rfl) rfl rfl ?_
          refine .run rfl (yFieldAddr rfl F24_0) rfl rfl ?_
          refine .run rfl (yLoad1 rfl O3 (cOwn 3 rfl rfl)) rfl rfl ?_
          refine .run rfl (yMove rfl) rfl rfl ?_
          refine .run rfl (yConvInt rfl U51 U3 (conv_ok (by omega))) rfl rfl ?_
          refine .run rfl (yFieldAddr rfl F24_1) rfl rfl ?_
          refine .run rfl (yLoad1 rfl O3 (cOwn 3 rfl rfl)) rfl rfl ?_
          refine .run rfl (yFieldAddr rfl F24_0) rfl rfl ?_
          refine .run rfl (yLoad1 rfl O3 (cOwn 3 rfl rfl)) rfl rfl ?_
          refine .run rfl (ySub rfl rfl (by omega)) rfl rfl ?_
          refine .run rfl (yAdd rfl rfl (by omega)) rfl rfl ?_
          refine .run rfl (yRem rfl rfl (by omega) (by omega)) rfl rfl ?_
          refine .run rfl (yAdd rfl rfl (by omega)) rfl rfl ?_
          refine .run rfl (yvSame (u := outV (if endF m a = 0 then placesF m (fullS m) a ((sumsF m (fullS m)).1 + (b : Int) % ((sumsF m (fullS m)).2 - (sumsF m (fullS m)).1 + 1)) else (0, 0)).1 (if endF m a = 0 then placesF m (fullS m) a ((sumsF m (fullS m)).1 + (b : Int) % ((sumsF m (fullS m)).2 - (sumsF m (fullS m)).1 + 1)) else (0, 0)).2 (endF m a)) (yCall rfl (.c rfl .n) C29 (fun w hw => with_any n3 n4 y m a ((sumsF m (fullS m)).1 + (b : Int) % ((sumsF m (fullS m)).2 - (sumsF m (fullS m)).1 + 1)) w (hm.eff hw) (hw.blkAt 5 rfl) (hw.blkAt 4 rfl))) (by rw [with_in hM ⟨by omega, by omega⟩])) rfl rfl ?_
          refine .run rfl (yMove rfl) rfl rfl ?_
          refine .run rfl (yExtract rfl rfl) rfl rfl ?_
          refine .run rfl (yExtract rfl rfl) rfl rfl ?_
          refine .run rfl (yAssign rfl) rfl rfl ?_
          refine .done ?_
          refine effStep 17 [] (by kernel_rfl) closedSt (hLeft [2, 6, 8, 13] (by kernel_rfl) (.c (fun _ _ hs => hs.ef) (.c (fun _ _ hs => hs.ef) (.c (fun _ _ hs => hs.ef) (.c (fun _ _ hs => hs.ef) .n))))) ?_
          refine .c ?_ .n
          refine effOne rfl (gNone rfl (fAlloc Z24)) ?_
          refine effStep 18 [] (by kernel_rfl) (closedEx fun n16 => closedSt) (hLeft [2, 6, 8, 13] (by kernel_rfl) (.c (fun _ _ ⟨n16, hs⟩ => hs.ef.sub (.c 1 rfl (.c 1 rfl (.c 1 rfl (.c 1 rfl (.c 1 rfl (.c 1 rfl .n))))))) (.c (fun _ _ ⟨n16, hs⟩ => hs.ef.sub (.c 1 rfl (.c 1 rfl (.c 1 rfl (.c 1 rfl (.c 1 rfl (.c 1 rfl .n))))))) (.c (fun _ _ ⟨n16, hs⟩ => hs.ef.sub (.c 1 rfl (.c 1 rfl (.c 1 rfl (.c 1 rfl (.c 1 rfl (.c 1 rfl .n))))))) (.c (fun _ _ ⟨n16, hs⟩ => hs.ef.sub (.c 1 rfl (.c 1 rfl (.c 1 rfl (.c 1 rfl (.c 1 rfl (.c 1 rfl .n))))))) .n))))) ?_
          refine .c ?_ .n
          refine effOne rfl (opEx fun n16 => (gNone rfl (fStoreL 0 rfl rfl rfl rfl K24 rfl (rfl)))) ?_
          refine effDone (closedEx fun n16 => closedSt) (hLeft [] (by kernel_rfl) .n) (by kernel_rfl) ?_
          refine trEx fun n16 => ?_
          refine kThen ?_
          refine kSeq ?_
          refine kSeq ?_
          refine kRegion rfl ?_
          refine lV (yMove rfl) rfl rfl ?_
          refine lV (yMove rfl) rfl rfl ?_
          refine lV (yNeq rfl rfl) rfl rfl ?_
          refine knownN (t := 118) rfl (fun h => h rfl) ?_
          refine lV (yMove rfl) rfl rfl ?_
          refine lGY rfl rfl rfl (oV (yMove rfl) rfl ?_)
          refine lGY rfl rfl rfl (oV (yMove rfl) rfl ?_)
          refine lGY rfl rfl rfl (oV (yNeq rfl rfl) rfl ?_)
          refine knownN (t := 122) rfl (fun h => h rfl) ?_
          refine lV (yPickF rfl rfl) rfl rfl ?_
          refine lV (yMove rfl) rfl rfl ?_
          refine lGY rfl rfl rfl (oV (yMove rfl) rfl ?_)
          refine lGY rfl rfl rfl (oV (yMove rfl) rfl ?_)
          refine lGY rfl rfl rfl (oV (yNeq rfl rfl) rfl ?_)
          refine knownN (t := 127) rfl (fun h => h rfl) ?_
          refine lV (yPickF rfl rfl) rfl rfl ?_
          refine lNil ?_
          refine kThen ?_
          refine kIfF rfl ?_
          refine kSkip ?_
          refine kThen ?_
          refine kSeq ?_
          refine kSeq ?_
          refine kRegion rfl ?_
          refine lV (yMove rfl) rfl rfl ?_
          refine lV (yEql rfl rfl) rfl rfl ?_
          refine lNil ?_
          refine kThen ?_
          refine split (t := 130) rfl (fun h130 => ?_) (fun h130 => ?_)
          · simp only [if_pos h130]
            have hp2 := hpe.2.2 _ (show (sumsF m (fullS m)).1 ≤ (sumsF m (fullS m)).1 + (b : Int) % ((sumsF m (fullS m)).2 - (sumsF m (fullS m)).1 + 1) by omega) (by omega)
            have hp3 := places_mono m (fullS m) a ho'
            have hp4 := hpe.1
            have hp5 := hpe.2.1
            refine kIfT rfl ?_
            refine kSeq ?_
            refine kRegion rfl ?_
            refine lV (yFieldAddr rfl F24_0) rfl rfl ?_
            refine lV (yLoad1 rfl O3 (cOwn 0 rfl rfl)) rfl rfl ?_
            refine lV (yFieldAddr rfl F24_0) rfl rfl ?_
            refine lV (yLoad1 rfl O3 (cOwn 3 rfl rfl)) rfl rfl ?_
            refine lV (yLss rfl rfl) rfl rfl ?_
            refine knownN (t := 135) rfl (by omega) ?_
            refine lV (yMove rfl) rfl rfl ?_
            refine lGY rfl rfl rfl (oV (yFieldAddr rfl F24_1) rfl ?_)
            refine lGY rfl rfl rfl (oV (yLoad1 rfl O3 (cOwn 0 rfl rfl)) rfl ?_)
            refine lGY rfl rfl rfl (oV (yFieldAddr rfl F24_1) rfl ?_)
            refine lGY rfl rfl rfl (oV (yLoad1 rfl O3 (cOwn 3 rfl rfl)) rfl ?_)
            refine lGY rfl rfl rfl (oV (yGtr rfl rfl) rfl ?_)
            refine knownN (t := 141) rfl (by omega) ?_
            refine lV (yPickF rfl rfl) rfl rfl ?_
            refine lV (yMove rfl) rfl rfl ?_
            refine lGY rfl rfl rfl (oV (yFieldAddr rfl F24_0) rfl ?_)
            refine lGY rfl rfl rfl (oV (yLoad1 rfl O3 (cOwn 2 rfl rfl)) rfl ?_)
            refine lGY rfl rfl rfl (oV (yFieldAddr rfl F24_0) rfl ?_)
            refine lGY rfl rfl rfl (oV (yLoad1 rfl O3 (cOwn 1 rfl rfl)) rfl ?_)
            refine lGY rfl rfl rfl (oV (yMin rfl rfl) rfl ?_)
            refine lGY rfl rfl rfl (oV (yFieldAddr rfl F24_0) rfl ?_)
            refine lGY rfl rfl rfl (oV (yLoad1 rfl O3 (cOwn 3 rfl rfl)) rfl ?_)
            refine lGY rfl rfl rfl (oV (yNeq rfl rfl) rfl ?_)
            refine knownN (t := 151) rfl (by omega) ?_
            refine lV (yPickF rfl rfl) rfl rfl ?_
            refine lV (yMove rfl) rfl rfl ?_
            refine lGY rfl rfl rfl (oV (yFieldAddr rfl F24_1) rfl ?_)
            refine lGY rfl rfl rfl (oV (yLoad1 rfl O3 (cOwn 2 rfl rfl)) rfl ?_)
            refine lGY rfl rfl rfl (oV (yFieldAddr rfl F24_1) rfl ?_)
            refine lGY rfl rfl rfl (oV (yLoad1 rfl O3 (cOwn 1 rfl rfl)) rfl ?_)
            refine lGY rfl rfl rfl (oV (yMax rfl rfl) rfl ?_)
            refine lGY rfl rfl rfl (oV (yFieldAddr rfl F24_1) rfl ?_)
            refine lGY rfl rfl rfl (oV (yLoad1 rfl O3 (cOwn 3 rfl rfl)) rfl ?_)
            refine lGY rfl rfl rfl (oV (yNeq rfl rfl) rfl ?_)
            refine knownN (t := 161) rfl (by omega) ?_
            refine lV (yPickF rfl rfl) rfl rfl ?_
            refine lNil ?_
            refine kThen ?_
            refine kIfF rfl ?_
            refine kSkip ?_
            refine kThen ?_
            refine kSeq ?_
            refine kSeq ?_
            refine kRegion rfl ?_
            refine lV (yFieldAddr rfl F24_0) rfl rfl ?_
            refine lV (yLoad1 rfl O3 (cOwn 4 rfl rfl)) rfl rfl ?_
            refine lV (ySub rfl rfl (by omega)) rfl rfl ?_
            refine lV (yFieldAddr rfl F24_1) rfl rfl ?_
            refine lV (yLoad1 rfl O3 (cOwn 4 rfl rfl)) rfl rfl ?_
            refine lV (yAdd rfl rfl (by omega)) rfl rfl ?_
            refine lE rfl ?_
            refine eBuildSlice (.c rfl (.c rfl .n)) (fun w => BS41_2_0_1 w) fun n169 => ?_
            refine lV (yLen rfl S41) rfl rfl ?_
            refine lV (yMove rfl) rfl rfl ?_
            refine lNil ?_
            refine kThen ?_
            refine kBlock ?_
            refine kLoopX (ι := Nat) (fun i => i ≤ 2) (fun i => [(171, i64 (i : Nat))]) [(0, _), (1, _), (2, _), (3, _), (4, _), (22, _), (23, _), (24, _), (25, _), (26, _), (27, _), (28, _), (31, _), (32, _), (30, _), (33, _), (34, _), (7, _), (8, _), (35, _), (36, _), (47, _), (48, _), (49, _), (50, _), (51, _), (52, _), (53, _), (54, _), (55, _), (56, _), (57, _), (58, _), (59, _), (60, _), (61, _), (62, _), (63, _), (64, _), (65, _), (66, _), (67, _), (68, _), (9, _), (70, _), (71, _), (72, _), (69, _), (73, _), (74, _), (10, _), (11, _), (75, _), (76, _), (77, _), (80, _), (81, _), (84, _), (86, _), (87, _), (88, _), (89, _), (85, _), (90, _), (91, _), (12, _), (13, _), (93, _), (94, _), (95, _), (96, _), (92, _), (97, _), (98, _), (14, _), (15, _), (100, _), (101, _), (102, _), (103, _), (104, _), (105, _), (106, _), (107, _), (108, _), (109, _), (110, _), (111, _), (112, _), (113, _), (99, _), (114, _), (115, _), (17, _), (16, _), (116, _), (117, _), (118, _), (119, _), (120, _), (121, _), (122, _), (123, _), (124, _), (125, _), (126, _), (127, _), (128, _), (129, _), (130, _), (131, _), (132, _), (133, _), (134, _), (135, _), (136, _), (137, _), (138, _), (139, _), (140, _), (141, _), (142, _), (143, _), (144, _), (145, _), (146, _), (147, _), (148, _), (149, _), (150, _), (151, _), (152, _), (153, _), (154, _), (155, _), (156, _), (157, _), (158, _), (159, _), (160, _), (161, _), (162, _), (163, _), (164, _), (165, _), (166, _), (167, _), (168, _), (169, _), (170, _)] (fun i => []) (fun i => []) [(n169, _), (n16, _), (n14, _), (n12, _), (n10, _), (n7, _), (n4, _), (n3, _)] (fun i => 2 - i) 0 (by omega) rfl (.c rfl .n) (.c rfl (.c rfl (.c rfl (.c rfl (.c rfl (.c rfl (.c rfl (.c rfl (.c rfl (.c rfl (.c rfl (.c rfl (.c rfl (.c rfl (.c rfl (.c rfl (.c rfl (.c rfl (.c rfl (.c rfl (.c rfl (.c rfl (.c rfl (.c rfl (.c rfl (.c rfl (.c rfl (.c rfl (.c rfl (.c rfl (.c rfl (.c rfl (.c rfl (.c rfl (.c rfl (.c rfl (.c rfl (.c rfl (.c rfl (.c rfl (.c rfl (.c rfl (.c rfl (.c rfl (.c rfl (.c rfl (.c rfl (.c rfl (.c rfl (.c rfl (.c rfl (.c rfl (.c rfl (.c rfl (.c rfl (.c rfl (.c rfl (.c rfl (.c rfl (.c rfl (.c rfl (.c rfl (.c rfl (.c rfl (.c rfl (.c rfl (.c rfl (.c rfl (.c rfl (.c rfl (.c rfl (.c rfl (.c rfl (.c rfl (.c rfl (.c rfl (.c rfl (.c rfl (.c rfl (.c rfl (.c rfl (.c rfl (.c rfl (.c rfl (.c rfl (.c rfl (.c rfl (.c rfl (.c rfl (.c rfl (.c rfl (.c rfl (.c rfl (.c rfl (.c rfl (.c rfl (.c rfl (.c rfl (.c rfl (.c rfl (.c rfl (.c rfl (.c rfl (.c rfl (.c rfl (.c rfl (.c rfl (.c rfl (.c rfl (.c rfl (.c rfl (.c rfl (.c rfl (.c rfl (.c rfl (.c rfl (.c rfl (.c rfl (.c rfl (.c rfl (.c rfl (.c rfl (.c rfl (.c rfl (.c rfl (.c rfl (.c rfl (.c rfl (.c rfl (.c rfl (.c rfl (.c rfl (.c rfl (.c rfl (.c rfl (.c rfl (.c rfl (.c rfl (.c rfl (.c rfl (.c rfl (.c rfl (.c rfl (.c rfl (.c rfl (.c rfl (.c rfl (.c rfl (.c rfl (.c rfl .n)))))))))))))))))))))))))))))))))))))))))))))))))))))))))))))))))))))))))))))))))))))))))))))))))))))))))))))))))))))))))))))))))))))))))))))))))))))) (.c 0 rfl (.c 0 rfl (.c 0 rfl (.c 0 rfl (.c 0 rfl (.c 0 rfl (.c 0 rfl (.c 0 rfl .n)))))))) ?_
            rintro i hi
            refine kSeq ?_
            refine kRegion rfl ?_
            refine lV (yLss rfl rfl) rfl rfl ?_
            refine lNil ?_
            refine kThen ?_
            refine kSeq ?_
            refine split (t := 172) rfl (fun h172 => ?_) (fun h172 => ?_)
            · refine kIfT rfl ?_
              refine kSkip ?_
              refine kThen ?_
              refine kSeq ?_
              refine kBlock ?_
              refine kSeq ?_
              refine kRegion rfl ?_
              refine lV (yIndexSl rfl rfl S41 (by omega) (by omega)) rfl rfl ?_
              refine lV (yLoad1 rfl O3 (cOwn 0 rfl (two_at (by omega)))) rfl rfl ?_
              refine lV (yAssign rfl) rfl rfl ?_
              refine lNil ?_
              obtain ⟨v, hv⟩ : ∃ v : Int, v = if i = 0 then (sumsF m (fullS m)).1 - 1 else (sumsF m (fullS m)).2 + 1 := ⟨_, rfl⟩
              rw [← hv]
              have hv' : v = (sumsF m (fullS m)).1 - 1 ∨ v = (sumsF m (fullS m)).2 + 1 := by rw [hv]; split <;> simp
              clear hv
              refine kThen ?_
              refine kSeq ?_
              refine kSeq ?_
              refine kRegion rfl ?_
              refine lV (yMove rfl) rfl rfl ?_
              refine lV (yFieldAddr rfl F29_2) rfl rfl ?_
              refine lV (yFieldAddr rfl F24_0) rfl rfl ?_
              refine lV (yLoad1 rfl O3 (cOwn 7 rfl rfl)) rfl rfl ?_
              refine lV (yLss rfl rfl) rfl rfl ?_
              refine lV (yMove rfl) rfl rfl ?_
              refine split (t := 180) rfl (fun h180 => ?_) (fun h180 => ?_)
              · refine lGN rfl rfl rfl rfl rfl ?_
                refine lGN rfl rfl rfl rfl rfl ?_
                refine lGN rfl rfl rfl rfl rfl ?_
                refine lGN rfl rfl rfl rfl rfl ?_
                refine lGN rfl rfl rfl rfl rfl ?_
                refine lV (yPickT rfl rfl) rfl rfl ?_
                refine lNil ?_
                refine kThen ?_
                refine kIfT rfl ?_
                refine kExit ?_
                refine kThenX ?_
                refine kInX ?_
                refine kThen ?_
                refine kRegion rfl ?_
                refine lV (yAdd rfl rfl (by omega)) rfl rfl ?_
                refine lV (yMove rfl) rfl rfl ?_
                refine lNil ?_
                exact kRoundX (i + 1) (by omega) (by omega) rfl (.c rfl .n) (.c rfl (.c rfl (.c rfl (.c rfl (.c rfl (.c rfl (.c rfl (.c rfl (.c rfl (.c rfl (.c rfl (.c rfl (.c rfl (.c rfl (.c rfl (.c rfl (.c rfl (.c rfl (.c rfl (.c rfl (.c rfl (.c rfl (.c rfl (.c rfl (.c rfl (.c rfl (.c rfl (.c rfl (.c rfl (.c rfl (.c rfl (.c rfl (.c rfl (.c rfl (.c rfl (.c rfl (.c rfl (.c rfl (.c rfl (.c rfl (.c rfl (.c rfl (.c rfl (.c rfl (.c rfl (.c rfl (.c rfl (.c rfl (.c rfl (.c rfl (.c rfl (.c rfl (.c rfl (.c rfl (.c rfl (.c rfl (.c rfl (.c rfl (.c rfl (.c rfl (.c rfl (.c rfl (.c rfl (.c rfl (.c rfl (.c rfl (.c rfl (.c rfl (.c rfl (.c rfl (.c rfl (.c rfl (.c rfl (.c rfl (.c rfl (.c rfl (.c rfl (.c rfl (.c rfl (.c rfl (.c rfl (.c rfl (.c rfl (.c rfl (.c rfl (.c rfl (.c rfl (.c rfl (.c rfl (.c rfl (.c rfl (.c rfl (.c rfl (.c rfl (.c rfl (.c rfl (.c rfl (.c rfl (.c rfl (.c rfl (.c rfl (.c rfl (.c rfl (.c rfl (.c rfl (.c rfl (.c rfl (.c rfl (.c rfl (.c rfl (.c rfl (.c rfl (.c rfl (.c rfl (.c rfl (.c rfl (.c rfl (.c rfl (.c rfl (.c rfl (.c rfl (.c rfl (.c rfl (.c rfl (.c rfl (.c rfl (.c rfl (.c rfl (.c rfl (.c rfl (.c rfl (.c rfl (.c rfl (.c rfl (.c rfl (.c rfl (.c rfl (.c rfl (.c rfl (.c rfl (.c rfl (.c rfl (.c rfl (.c rfl (.c rfl (.c rfl (.c rfl (.c rfl (.c rfl (.c rfl .n)))))))))))))))))))))))))))))))))))))))))))))))))))))))))))))))))))))))))))))))))))))))))))))))))))))))))))))))))))))))))))))))))))))))))))))))))))))) (.c 0 rfl (.c 0 rfl (.c 0 rfl (.c 0 rfl (.c 0 rfl (.c 0 rfl (.c 0 rfl (.c 0 rfl .n))))))))
              · refine lGY rfl rfl rfl (oV (yMove rfl) rfl ?_)
                refine lGY rfl rfl rfl (oV (yFieldAddr rfl F29_2) rfl ?_)
                refine lGY rfl rfl rfl (oV (yFieldAddr rfl F24_1) rfl ?_)
                refine lGY rfl rfl rfl (oV (yLoad1 rfl O3 (cOwn 7 rfl rfl)) rfl ?_)
                refine lGY rfl rfl rfl (oV (yGtr rfl rfl) rfl ?_)
                refine lV (yPickF rfl rfl) rfl rfl ?_
                refine lNil ?_
                refine kThen ?_
                refine split (t := 186) rfl (fun h186 => ?_) (fun h186 => ?_)
                · refine kIfT rfl ?_
                  refine kExit ?_
                  refine kThenX ?_
                  refine kInX ?_
                  refine kThen ?_
                  refine kRegion rfl ?_
                  refine lV (yAdd rfl rfl (by omega)) rfl rfl ?_
                  refine lV (yMove rfl) rfl rfl ?_
                  refine lNil ?_
                  exact kRoundX (i + 1) (by omega) (by omega) rfl (.c rfl .n) (.c rfl (.c rfl (.c rfl (.c rfl (.c rfl (.c rfl (.c rfl (.c rfl (.c rfl (.c rfl (.c rfl (.c rfl (.c rfl (.c rfl (.c rfl (.c rfl (.c rfl (.c rfl (.c rfl (.c rfl (.c rfl (.c rfl (.c rfl (.c rfl (.c rfl (.c rfl (.c rfl (.c rfl (.c rfl (.c rfl (.c rfl (.c rfl (.c rfl (.c rfl (.c rfl (.c rfl (.c rfl (.c rfl (.c rfl (.c rfl (.c rfl (.c rfl (.c rfl (.c rfl (.c rfl (.c rfl (.c rfl (.c rfl (.c rfl (.c rfl (.c rfl (.c rfl (.c rfl (.c rfl (.c rfl (.c rfl (.c rfl (.c rfl (.c rfl (.c rfl (.c rfl (.c rfl (.c rfl (.c rfl (.c rfl (.c rfl (.c rfl (.c rfl (.c rfl (.c rfl (.c rfl (.c rfl (.c rfl (.c rfl (.c rfl (.c rfl (.c rfl (.c rfl (.c rfl (.c rfl (.c rfl (.c rfl (.c rfl (.c rfl (.c rfl (.c rfl (.c rfl (.c rfl (.c rfl (.c rfl (.c rfl (.c rfl (.c rfl (.c rfl (.c rfl (.c rfl (.c rfl (.c rfl (.c rfl (.c rfl (.c rfl (.c rfl (.c rfl (.c rfl (.c rfl (.c rfl (.c rfl (.c rfl (.c rfl (.c rfl (.c rfl (.c rfl (.c rfl (.c rfl (.c rfl (.c rfl (.c rfl (.c rfl (.c rfl (.c rfl (.c rfl (.c rfl (.c rfl (.c rfl (.c rfl (.c rfl (.c rfl (.c rfl (.c rfl (.c rfl (.c rfl (.c rfl (.c rfl (.c rfl (.c rfl (.c rfl (.c rfl (.c rfl (.c rfl (.c rfl (.c rfl (.c rfl (.c rfl (.c rfl (.c rfl (.c rfl (.c rfl (.c rfl (.c rfl (.c rfl .n)))))))))))))))))))))))))))))))))))))))))))))))))))))))))))))))))))))))))))))))))))))))))))))))))))))))))))))))))))))))))))))))))))))))))))))))))))))) (.c 0 rfl (.c 0 rfl (.c 0 rfl (.c 0 rfl (.c 0 rfl (.c 0 rfl (.c 0 rfl (.c 0 rfl .n))))))))
                · refine kIfF rfl ?_
                  refine kSkip ?_
                  refine kThen ?_
                  refine kSeq ?_
                  have hwo := with_out hM (n := v) (by omega) (by omega) a
                  refine kRegion rfl ?_
                  refine lV (yMove rfl) rfl rfl ?_
                  refine lV (yMove rfl) rfl rfl ?_
                  refine lV (yCall rfl (.c rfl .n) C29 (fun w hw => with_any n3 n4 y m a v w (hm.eff hw) (hw.blkAt 7 rfl) (hw.blkAt 6 rfl))) rfl rfl ?_
                  refine lV (yMove rfl) rfl rfl ?_
                  refine lV (yExtract rfl rfl) rfl rfl ?_
                  refine lV (yExtract rfl rfl) rfl rfl ?_
                  refine lE rfl ?_
                  refine eAlloc Z24 fun n20 => ?_
                  refine lE rfl ?_
                  refine eStoreL 0 rfl rfl rfl rfl K24 rfl (rfl) ?_
                  refine lV (yAssign rfl) rfl rfl ?_
                  refine lNil ?_
                  refine kThen ?_
                  refine kSeq ?_
                  refine kRegion rfl ?_
                  refine lV (yMove rfl) rfl rfl ?_
                  refine lV (yNeq rfl rfl) rfl rfl ?_
                  refine lV (yMove rfl) rfl rfl ?_
                  refine split (t := 195) rfl (fun h195 => ?_) (fun h195 => ?_)
                  · refine lGY rfl rfl rfl (oV (yMove rfl) rfl ?_)
                    refine lGY rfl rfl rfl (oV (yNeq rfl rfl) rfl ?_)
                    refine knownN (t := 197) rfl (by omega) ?_
                    refine lV (yPickT rfl rfl) rfl rfl ?_
                    refine lNil ?_
                    refine kThen ?_
                    refine kIfF rfl ?_
                    refine kSkip ?_
                    refine kInN ?_
                    refine kThen ?_
                    refine kRegion rfl ?_
                    refine lV (yAdd rfl rfl (by omega)) rfl rfl ?_
                    refine lV (yMove rfl) rfl rfl ?_
                    refine lNil ?_
                    exact kRoundX (i + 1) (by omega) (by omega) rfl (.c rfl .n) (.c rfl (.c rfl (.c rfl (.c rfl (.c rfl (.c rfl (.c rfl (.c rfl (.c rfl (.c rfl (.c rfl (.c rfl (.c rfl (.c rfl (.c rfl (.c rfl (.c rfl (.c rfl (.c rfl (.c rfl (.c rfl (.c rfl (.c rfl (.c rfl (.c rfl (.c rfl (.c rfl (.c rfl (.c rfl (.c rfl (.c rfl (.c rfl (.c rfl (.c rfl (.c rfl (.c rfl (.c rfl (.c rfl (.c rfl (.c rfl (.c rfl (.c rfl (.c rfl (.c rfl (.c rfl (.c rfl (.c rfl (.c rfl (.c rfl (.c rfl (.c rfl (.c rfl (.c rfl (.c rfl (.c rfl (.c rfl (.c rfl (.c rfl (.c rfl (.c rfl (.c rfl (.c rfl (.c rfl (.c rfl (.c rfl (.c rfl (.c rfl (.c rfl (.c rfl (.c rfl (.c rfl (.c rfl (.c rfl (.c rfl (.c rfl (.c rfl (.c rfl (.c rfl (.c rfl (.c rfl (.c rfl (.c rfl (.c rfl (.c rfl (.c rfl (.c rfl (.c rfl (.c rfl (.c rfl (.c rfl (.c rfl (.c rfl (.c rfl (.c rfl (.c rfl (.c rfl (.c rfl (.c rfl (.c rfl (.c rfl (.c rfl (.c rfl (.c rfl (.c rfl (.c rfl (.c rfl (.c rfl (.c rfl (.c rfl (.c rfl (.c rfl (.c rfl (.c rfl (.c rfl (.c rfl (.c rfl (.c rfl (.c rfl (.c rfl (.c rfl (.c rfl (.c rfl (.c rfl (.c rfl (.c rfl (.c rfl (.c rfl (.c rfl (.c rfl (.c rfl (.c rfl (.c rfl (.c rfl (.c rfl (.c rfl (.c rfl (.c rfl (.c rfl (.c rfl (.c rfl (.c rfl (.c rfl (.c rfl (.c rfl (.c rfl (.c rfl (.c rfl (.c rfl (.c rfl (.c rfl .n)))))))))))))))))))))))))))))))))))))))))))))))))))))))))))))))))))))))))))))))))))))))))))))))))))))))))))))))))))))))))))))))))))))))))))))))))))))) (.c 1 rfl (.c 1 rfl (.c 1 rfl (.c 1 rfl (.c 1 rfl (.c 1 rfl (.c 1 rfl (.c 1 rfl .n))))))))
                  · refine lGN rfl rfl rfl rfl rfl ?_
                    refine lGN rfl rfl rfl rfl rfl ?_
                    refine lV (yPickF rfl rfl) rfl rfl ?_
                    refine lNil ?_
                    refine kThen ?_
                    refine kIfF rfl ?_
                    refine kSkip ?_
                    refine kInN ?_
                    refine kThen ?_
                    refine kRegion rfl ?_
                    refine lV (yAdd rfl rfl (by omega)) rfl rfl ?_
                    refine lV (yMove rfl) rfl rfl ?_
                    refine lNil ?_
                    exact kRoundX (i + 1) (by omega) (by omega) rfl (.c rfl .n) (.c rfl (.c rfl (.c rfl (.c rfl (.c rfl (.c rfl (.c rfl (.c rfl (.c rfl (.c rfl (.c rfl (.c rfl (.c rfl (.c rfl (.c rfl (.c rfl (.c rfl (.c rfl (.c rfl (.c rfl (.c rfl (.c rfl (.c rfl (.c rfl (.c rfl (.c rfl (.c rfl (.c rfl (.c rfl (.c rfl (.c rfl (.c rfl (.c rfl (.c rfl (.c rfl (.c rfl (.c rfl (.c rfl (.c rfl (.c rfl (.c rfl (.c rfl (.c rfl (.c rfl (.c rfl (.c rfl (.c rfl (.c rfl (.c rfl (.c rfl (.c rfl (.c rfl (.c rfl (.c rfl (.c rfl (.c rfl (.c rfl (.c rfl (.c rfl (.c rfl (.c rfl (.c rfl (.c rfl (.c rfl (.c rfl (.c rfl (.c rfl (.c rfl (.c rfl (.c rfl (.c rfl (.c rfl (.c rfl (.c rfl (.c rfl (.c rfl (.c rfl (.c rfl (.c rfl (.c rfl (.c rfl (.c rfl (.c rfl (.c rfl (.c rfl (.c rfl (.c rfl (.c rfl (.c rfl (.c rfl (.c rfl (.c rfl (.c rfl (.c rfl (.c rfl (.c rfl (.c rfl (.c rfl (.c rfl (.c rfl (.c rfl (.c rfl (.c rfl (.c rfl (.c rfl (.c rfl (.c rfl (.c rfl (.c rfl (.c rfl (.c rfl (.c rfl (.c rfl (.c rfl (.c rfl (.c rfl (.c rfl (.c rfl (.c rfl (.c rfl (.c rfl (.c rfl (.c rfl (.c rfl (.c rfl (.c rfl (.c rfl (.c rfl (.c rfl (.c rfl (.c rfl (.c rfl (.c rfl (.c rfl (.c rfl (.c rfl (.c rfl (.c rfl (.c rfl (.c rfl (.c rfl (.c rfl (.c rfl (.c rfl (.c rfl (.c rfl (.c rfl (.c rfl (.c rfl (.c rfl .n)))))))))))))))))))))))))))))))))))))))))))))))))))))))))))))))))))))))))))))))))))))))))))))))))))))))))))))))))))))))))))))))))))))))))))))))))))))) (.c 1 rfl (.c 1 rfl (.c 1 rfl (.c 1 rfl (.c 1 rfl (.c 1 rfl (.c 1 rfl (.c 1 rfl .n))))))))
            · refine kIfF rfl ?_
              refine kExit ?_
              refine kThenX ?_
              refine kThenX ?_
              refine kInX ?_
              refine kThen ?_
              refine kSeq ?_
              refine kRegion rfl ?_
              refine lV (yCall rfl .n C15 (fun w hw => alive_any w)) rfl rfl ?_
              refine lV (yAssign rfl) rfl rfl ?_
              refine lNil ?_
              refine kThen ?_
              refine kRet ?_
              refine fRet rfl (.t rfl .n) (endRet ?_)
              first | rfl | (simp [packV, *]; done)
          · refine kIfF rfl ?_
            refine kSkip ?_
            refine kThen ?_
            refine kSeq ?_
            refine kSeq ?_
            refine kRegion rfl ?_
            refine lV (yFieldAddr rfl F24_0) rfl rfl ?_
            refine lV (yLoad1 rfl O3 (cOwn 4 rfl rfl)) rfl rfl ?_
            refine lV (ySub rfl rfl (by omega)) rfl rfl ?_
            refine lV (yFieldAddr rfl F24_1) rfl rfl ?_
            refine lV (yLoad1 rfl O3 (cOwn 4 rfl rfl)) rfl rfl ?_
            refine lV (yAdd rfl rfl (by omega)) rfl rfl ?_
            refine lE rfl ?_
            refine eBuildSlice (.c rfl (.c rfl .n)) (fun w => BS41_2_0_1 w) fun n169 => ?_
            refine lV (yLen rfl S41) rfl rfl ?_
            refine lV (yMove rfl) rfl rfl ?_
            refine lNil ?_
            refine kThen ?_
            refine kBlock ?_
            refine kLoopX (ι := Nat) (fun i => i ≤ 2) (fun i => [(171, i64 (i : Nat))]) [(0, _), (1, _), (2, _), (3, _), (4, _), (22, _), (23, _), (24, _), (25, _), (26, _), (27, _), (28, _), (31, _), (32, _), (30, _), (33, _), (34, _), (7, _), (8, _), (35, _), (36, _), (47, _), (48, _), (49, _), (50, _), (51, _), (52, _), (53, _), (54, _), (55, _), (56, _), (57, _), (58, _), (59, _), (60, _), (61, _), (62, _), (63, _), (64, _), (65, _), (66, _), (67, _), (68, _), (9, _), (70, _), (71, _), (72, _), (69, _), (73, _), (74, _), (10, _), (11, _), (75, _), (76, _), (77, _), (80, _), (81, _), (84, _), (86, _), (87, _), (88, _), (89, _), (85, _), (90, _), (91, _), (12, _), (13, _), (93, _), (94, _), (95, _), (96, _), (92, _), (97, _), (98, _), (14, _), (15, _), (100, _), (101, _), (102, _), (103, _), (104, _), (105, _), (106, _), (107, _), (108, _), (109, _), (110, _), (111, _), (112, _), (113, _), (99, _), (114, _), (115, _), (17, _), (16, _), (116, _), (117, _), (118, _), (119, _), (120, _), (121, _), (122, _), (123, _), (124, _), (125, _), (126, _), (127, _), (128, _), (129, _), (130, _), (163, _), (164, _), (165, _), (166, _), (167, _), (168, _), (169, _), (170, _)] (fun i => []) (fun i => []) [(n169, _), (n16, _), (n14, _), (n12, _), (n10, _), (n7, _), (n4, _), (n3, _)] (fun i => 2 - i) 0 (by omega) rfl (.c rfl .n) (.c rfl (.c rfl (.c rfl (.c rfl (.c rfl (.c rfl (.c rfl (.c rfl (.c rfl (.c rfl (.c rfl (.c rfl (.c rfl (.c rfl (.c rfl (.c rfl (.c rfl (.c rfl (.c rfl (.c rfl (.c rfl (.c rfl (.c rfl (.c rfl (.c rfl (.c rfl (.c rfl (.c rfl (.c rfl (.c rfl (.c rfl (.c rfl (.c rfl (.c rfl (.c rfl (.c rfl (.c rfl (.c rfl (.c rfl (.c rfl (.c rfl (.c rfl (.c rfl (.c rfl (.c rfl (.c rfl (.c rfl (.c rfl (.c rfl (.c rfl (.c rfl (.c rfl (.c rfl (.c rfl (.c rfl (.c rfl (.c rfl (.c rfl (.c rfl (.c rfl (.c rfl (.c rfl (.c rfl (.c rfl (.c rfl (.c rfl (.c rfl (.c rfl (.c rfl (.c rfl (.c rfl (.c rfl (.c rfl (.c rfl (.c rfl (.c rfl (.c rfl (.c rfl (.c rfl (.c rfl (.c rfl (.c rfl (.c rfl (.c rfl (.c rfl (.c rfl (.c rfl (.c rfl (.c rfl (.c rfl (.c rfl (.c rfl (.c rfl (.c rfl (.c rfl (.c rfl (.c rfl (.c rfl (.c rfl (.c rfl (.c rfl (.c rfl (.c rfl (.c rfl (.c rfl (.c rfl (.c rfl (.c rfl (.c rfl (.c rfl (.c rfl (.c rfl (.c rfl (.c rfl (.c rfl (.c rfl (.c rfl (.c rfl .n)))))))))))))))))))))))))))))))))))))))))))))))))))))))))))))))))))))))))))))))))))))))))))))))))))))))))))))))))))))) (.c 0 rfl (.c 0 rfl (.c 0 rfl (.c 0 rfl (.c 0 rfl (.c 0 rfl (.c 0 rfl (.c 0 rfl .n)))))))) ?_
            rintro i hi
            refine kSeq ?_
            refine kRegion rfl ?_
            refine lV (yLss rfl rfl) rfl rfl ?_
            refine lNil ?_
            refine kThen ?_
            refine kSeq ?_
            refine split (t := 172) rfl (fun h172 => ?_) (fun h172 => ?_)
            · refine kIfT rfl ?_
              refine kSkip ?_
              refine kThen ?_
              refine kSeq ?_
              refine kBlock ?_
              refine kSeq ?_
              refine kRegion rfl ?_
              refine lV (yIndexSl rfl rfl S41 (by omega) (by omega)) rfl rfl ?_
              refine lV (yLoad1 rfl O3 (cOwn 0 rfl (two_at (by omega)))) rfl rfl ?_
              refine lV (yAssign rfl) rfl rfl ?_
              refine lNil ?_
              obtain ⟨v, hv⟩ : ∃ v : Int, v = if i = 0 then (sumsF m (fullS m)).1 - 1 else (sumsF m (fullS m)).2 + 1 := ⟨_, rfl⟩
              rw [← hv]
              have hv' : v = (sumsF m (fullS m)).1 - 1 ∨ v = (sumsF m (fullS m)).2 + 1 := by rw [hv]; split <;> simp
              clear hv
              refine kThen ?_
              refine kSeq ?_
              refine kSeq ?_
              refine kRegion rfl ?_
              refine lV (yMove rfl) rfl rfl ?_
              refine lV (yFieldAddr rfl F29_2) rfl rfl ?_
              refine lV (yFieldAddr rfl F24_0) rfl rfl ?_
              refine lV (yLoad1 rfl O3 (cOwn 7 rfl rfl)) rfl rfl ?_
              refine lV (yLss rfl rfl) rfl rfl ?_
              refine lV (yMove rfl) rfl rfl ?_
              refine split (t := 180) rfl (fun h180 => ?_) (fun h180 => ?_)
              · refine lGN rfl rfl rfl rfl rfl ?_
                refine lGN rfl rfl rfl rfl rfl ?_
                refine lGN rfl rfl rfl rfl rfl ?_
                refine lGN rfl rfl rfl rfl rfl ?_
                refine lGN rfl rfl rfl rfl rfl ?_
                refine lV (yPickT rfl rfl) rfl rfl ?_
                refine lNil ?_
                refine kThen ?_
                refine kIfT rfl ?_
                refine kExit ?_
                refine kThenX ?_
                refine kInX ?_
                refine kThen ?_
                refine kRegion rfl ?_
                refine lV (yAdd rfl rfl (by omega)) rfl rfl ?_
                refine lV (yMove rfl) rfl rfl ?_
                refine lNil ?_
                exact kRoundX (i + 1) (by omega) (by omega) rfl (.c rfl .n) (.c rfl (.c rfl (.c rfl (.c rfl (.c rfl (.c rfl (.c rfl (.c rfl (.c rfl (.c rfl (.c rfl (.c rfl (.c rfl (.c rfl (.c rfl (.c rfl (.c rfl (.c rfl (.c rfl (.c rfl (.c rfl (.c rfl (.c rfl (.c rfl (.c rfl (.c rfl (.c rfl (.c rfl (.c rfl (.c rfl (.c rfl (.c rfl (.c rfl (.c rfl (.c rfl (.c rfl (.c rfl (.c rfl (.c rfl (.c rfl (.c rfl (.c rfl (.c rfl (.c rfl (.c rfl (.c rfl (.c rfl (.c rfl (.c rfl (.c rfl (.c rfl (.c rfl (.c rfl (.c rfl (.c rfl (.c rfl (.c rfl (.c rfl (.c rfl (.c rfl (.c rfl (.c rfl (.c rfl (.c rfl (.c rfl (.c rfl (.c rfl (.c rfl (.c rfl (.c rfl (.c rfl (.c rfl (.c rfl (.c rfl (.c rfl (.c rfl (.c rfl (.c rfl (.c rfl (.c rfl (.c rfl (.c rfl (.c rfl (.c rfl (.c rfl (.c rfl (.c rfl (.c rfl (.c rfl (.c rfl (.c rfl (.c rfl (.c rfl (.c rfl (.c rfl (.c rfl (.c rfl (.c rfl (.c rfl (.c rfl (.c rfl (.c rfl (.c rfl (.c rfl (.c rfl (.c rfl (.c rfl (.c rfl (.c rfl (.c rfl (.c rfl (.c rfl (.c rfl (.c rfl (.c rfl (.c rfl (.c rfl (.c rfl .n)))))))))))))))))))))))))))))))))))))))))))))))))))))))))))))))))))))))))))))))))))))))))))))))))))))))))))))))))))))) (.c 0 rfl (.c 0 rfl (.c 0 rfl (.c 0 rfl (.c 0 rfl (.c 0 rfl (.c 0 rfl (.c 0 rfl .n))))))))
              · refine lGY rfl rfl rfl (oV (yMove rfl) rfl ?_)
                refine lGY rfl rfl rfl (oV (yFieldAddr rfl F29_2) rfl ?_)
                refine lGY rfl rfl rfl (oV (yFieldAddr rfl F24_1) rfl ?_)
                refine lGY rfl rfl rfl (oV (yLoad1 rfl O3 (cOwn 7 rfl rfl)) rfl ?_)
                refine lGY rfl rfl rfl (oV (yGtr rfl rfl) rfl ?_)
                refine lV (yPickF rfl rfl) rfl rfl ?_
                refine lNil ?_
                refine kThen ?_
                refine split (t := 186) rfl (fun h186 => ?_) (fun h186 => ?_)
                · refine kIfT rfl ?_
                  refine kExit ?_
                  refine kThenX ?_
                  refine kInX ?_
                  refine kThen ?_
                  refine kRegion rfl ?_
                  refine lV (yAdd rfl rfl (by omega)) rfl rfl ?_
                  refine lV (yMove rfl) rfl rfl ?_
                  refine lNil ?_
                  exact kRoundX (i + 1) (by omega) (by omega) rfl (.c rfl .n) (.c rfl (.c rfl (.c rfl (.c rfl (.c rfl (.c rfl (.c rfl (.c rfl (.c rfl (.c rfl (.c rfl (.c rfl (.c rfl (.c rfl (.c rfl (.c rfl (.c rfl (.c rfl (.c rfl (.c rfl (.c rfl (.c rfl (.c rfl (.c rfl (.c rfl (.c rfl (.c rfl (.c rfl (.c rfl (.c rfl (.c rfl (.c rfl (.c rfl (.c rfl (.c rfl (.c rfl (.c rfl (.c rfl (.c rfl (.c rfl (.c rfl (.c rfl (.c rfl (.c rfl (.c rfl (.c rfl (.c rfl (.c rfl (.c rfl (.c rfl (.c rfl (.c rfl (.c rfl (.c rfl (.c rfl (.c rfl (.c rfl (.c rfl (.c rfl (.c rfl (.c rfl (.c rfl (.c rfl (.c rfl (.c rfl (.c rfl (.c rfl (.c rfl (.c rfl (.c rfl (.c rfl (.c rfl (.c rfl (.c rfl (.c rfl (.c rfl (.c rfl (.c rfl (.c rfl (.c rfl (.c rfl (.c rfl (.c rfl (.c rfl (.c rfl (.c rfl (.c rfl (.c rfl (.c rfl (.c rfl (.c rfl (.c rfl (.c rfl (.c rfl (.c rfl (.c rfl (.c rfl (.c rfl (.c rfl (.c rfl (.c rfl (.c rfl (.c rfl (.c rfl (.c rfl (.c rfl (.c rfl (.c rfl (.c rfl (.c rfl (.c rfl (.c rfl (.c rfl (.c rfl (.c rfl (.c rfl (.c rfl (.c rfl .n)))))))))))))))))))))))))))))))))))))))))))))))))))))))))))))))))))))))))))))))))))))))))))))))))))))))))))))))))))))) (.c 0 rfl (.c 0 rfl (.c 0 rfl (.c 0 rfl (.c 0 rfl (.c 0 rfl (.c 0 rfl (.c 0 rfl .n))))))))
                · refine kIfF rfl ?_
                  refine kSkip ?_
                  refine kThen ?_
                  refine kSeq ?_
                  have hwo := with_out hM (n := v) (by omega) (by omega) a
                  refine kRegion rfl ?_
                  refine lV (yMove rfl) rfl rfl ?_
                  refine lV (yMove rfl) rfl rfl ?_
                  refine lV (yCall rfl (.c rfl .n) C29 (fun w hw => with_any n3 n4 y m a v w (hm.eff hw) (hw.blkAt 7 rfl) (hw.blkAt 6 rfl))) rfl rfl ?_
                  refine lV (yMove rfl) rfl rfl ?_
                  refine lV (yExtract rfl rfl) rfl rfl ?_
                  refine lV (yExtract rfl rfl) rfl rfl ?_
                  refine lE rfl ?_
                  refine eAlloc Z24 fun n20 => ?_
                  refine lE rfl ?_
                  refine eStoreL 0 rfl rfl rfl rfl K24 rfl (rfl) ?_
                  refine lV (yAssign rfl) rfl rfl ?_
                  refine lNil ?_
                  refine kThen ?_
                  refine kSeq ?_
                  refine kRegion rfl ?_
                  refine lV (yMove rfl) rfl rfl ?_
                  refine lV (yNeq rfl rfl) rfl rfl ?_
                  refine lV (yMove rfl) rfl rfl ?_
                  refine split (t := 195) rfl (fun h195 => ?_) (fun h195 => ?_)
                  · refine lGY rfl rfl rfl (oV (yMove rfl) rfl ?_)
                    refine lGY rfl rfl rfl (oV (yNeq rfl rfl) rfl ?_)
                    refine knownN (t := 197) rfl (by omega) ?_
                    refine lV (yPickT rfl rfl) rfl rfl ?_
                    refine lNil ?_
                    refine kThen ?_
                    refine kIfF rfl ?_
                    refine kSkip ?_
                    refine kInN ?_
                    refine kThen ?_
                    refine kRegion rfl ?_
                    refine lV (yAdd rfl rfl (by omega)) rfl rfl ?_
                    refine lV (yMove rfl) rfl rfl ?_
                    refine lNil ?_
                    exact kRoundX (i + 1) (by omega) (by omega) rfl (.c rfl .n) (.c rfl (.c rfl (.c rfl (.c rfl (.c rfl (.c rfl (.c rfl (.c rfl (.c rfl (.c rfl (.c rfl (.c rfl (.c rfl (.c rfl (.c rfl (.c rfl (.c rfl (.c rfl (.c rfl (.c rfl (.c rfl (.c rfl (.c rfl (.c rfl (.c rfl (.c rfl (.c rfl (.c rfl (.c rfl (.c rfl (.c rfl (.c rfl (.c rfl (.c rfl (.c rfl (.c rfl (.c rfl (.c rfl (.c rfl (.c rfl (.c rfl (.c rfl (.c rfl (.c rfl (.c rfl (.c rfl (.c rfl (.c rfl (.c rfl (.c rfl (.c rfl (.c rfl (.c rfl (.c rfl (.c rfl (.c rfl (.c rfl (.c rfl (.c rfl (.c rfl (.c rfl (.c rfl (.c rfl (.c rfl (.c rfl (.c rfl (.c rfl (.c rfl (.c rfl (.c rfl (.c rfl (.c rfl (.c rfl (.c rfl (.c rfl (.c rfl (.c rfl (.c rfl (.c rfl (.c rfl (.c rfl (.c rfl (.c rfl (.c rfl (.c rfl (.c rfl (.c rfl (.c rfl (.c rfl (.c rfl (.c rfl (.c rfl (.c rfl (.c rfl (.c rfl (.c rfl (.c rfl (.c rfl (.c rfl (.c rfl (.c rfl (.c rfl (.c rfl (.c rfl (.c rfl (.c rfl (.c rfl (.c rfl (.c rfl (.c rfl (.c rfl (.c rfl (.c rfl (.c rfl (.c rfl (.c rfl (.c rfl (.c rfl .n)))))))))))))))))))))))))))))))))))))))))))))))))))))))))))))))))))))))))))))))))))))))))))))))))))))))))))))))))))))) (.c 1 rfl (.c 1 rfl (.c 1 rfl (.c 1 rfl (.c 1 rfl (.c 1 rfl (.c 1 rfl (.c 1 rfl .n))))))))
                  · refine lGN rfl rfl rfl rfl rfl ?_
                    refine lGN rfl rfl rfl rfl rfl ?_
                    refine lV (yPickF rfl rfl) rfl rfl ?_
                    refine lNil ?_
                    refine kThen ?_
                    refine kIfF rfl ?_
                    refine kSkip ?_
                    refine kInN ?_
                    refine kThen ?_
                    refine kRegion rfl ?_
                    refine lV (yAdd rfl rfl (by omega)) rfl rfl ?_
                    refine lV (yMove rfl) rfl rfl ?_
                    refine lNil ?_
                    exact kRoundX (i + 1) (by omega) (by omega) rfl (.c rfl .n) (.c rfl (.c rfl (.c rfl (.c rfl (.c rfl (.c rfl (.c rfl (.c rfl (.c rfl (.c rfl (.c rfl (.c rfl (.c rfl (.c rfl (.c rfl (.c rfl (.c rfl (.c rfl (.c rfl (.c rfl (.c rfl (.c rfl (.c rfl (.c rfl (.c rfl (.c rfl (.c rfl (.c rfl (.c rfl (.c rfl (.c rfl (.c rfl (.c rfl (.c rfl (.c rfl (.c rfl (.c rfl (.c rfl (.c rfl (.c rfl (.c rfl (.c rfl (.c rfl (.c rfl (.c rfl (.c rfl (.c rfl (.c rfl (.c rfl (.c rfl (.c rfl (.c rfl (.c rfl (.c rfl (.c rfl (.c rfl (.c rfl (.c rfl (.c rfl (.c rfl (.c rfl (.c rfl (.c rfl (.c rfl (.c rfl (.c rfl (.c rfl (.c rfl (.c rfl (.c rfl (.c rfl (.c rfl (.c rfl (.c rfl (.c rfl (.c rfl (.c rfl (.c rfl (.c rfl (.c rfl (.c rfl (.c rfl (.c rfl (.c rfl (.c rfl (.c rfl (.c rfl (.c rfl (.c rfl (.c rfl (.c rfl (.c rfl (.c rfl (.c rfl (.c rfl (.c rfl (.c rfl (.c rfl (.c rfl (.c rfl (.c rfl (.c rfl (.c rfl (.c rfl (.c rfl (.c rfl (.c rfl (.c rfl (.c rfl (.c rfl (.c rfl (.c rfl (.c rfl (.c rfl (.c rfl (.c rfl (.c rfl (.c rfl .n)))))))))))))))))))))))))))))))))))))))))))))))))))))))))))))))))))))))))))))))))))))))))))))))))))))))))))))))))))))) (.c 1 rfl (.c 1 rfl (.c 1 rfl (.c 1 rfl (.c 1 rfl (.c 1 rfl (.c 1 rfl (.c 1 rfl .n))))))))
            · refine kIfF rfl ?_
              refine kExit ?_
              refine kThenX ?_
              refine kThenX ?_
              refine kInX ?_
              refine kThen ?_
              refine kSeq ?_
              refine kRegion rfl ?_
              refine lV (yCall rfl .n C15 (fun w hw => alive_any w)) rfl rfl ?_
              refine lV (yAssign rfl) rfl rfl ?_
              refine lNil ?_
              refine kThen ?_
              refine kRet ?_
              refine fRet rfl (.t rfl .n) (endRet ?_)
              first | rfl | (simp [packV, *]; done)
      · have hM := notF h28
        refine kRegion rfl ?_
        refine lV (yLoadA (vs := [_, _, _, _, _, _, _]) rfl A29 (cOwn 1 rfl rfl)) rfl rfl ?_
        refine lV (yCall rfl (.c rfl .n) C18 (fun w hw => sum_any y m w (hm.eff hw))) rfl rfl ?_
        refine same (t := 32) (u := outV 0 0 10) rfl (by rw [sumE_clash hM ho]) ?_
        refine lV (yMove rfl) rfl rfl ?_
        refine lV (yExtract rfl rfl) rfl rfl ?_
        refine lV (yExtract rfl rfl) rfl rfl ?_
        refine lE rfl ?_
        refine eAlloc Z24 fun n7 => ?_
        refine lE rfl ?_
        refine eStoreL 0 rfl rfl rfl rfl K24 rfl (rfl) ?_
        refine lV (yAssign rfl) rfl rfl ?_
        refine lNil ?_
        refine kThen ?_
        refine kSeq ?_
        refine kSeq ?_
        refine kRegion rfl ?_
        refine lV (yMove rfl) rfl rfl ?_
        refine lV (yNeq rfl rfl) rfl rfl ?_
        refine known (t := 36) rfl (by decide) ?_
        refine lNil ?_
        refine kThen ?_
        refine kIfT rfl ?_
        refine kSeq ?_
        refine kRegion rfl ?_
        refine lV (yMove rfl) rfl rfl ?_
        refine lV (yEql rfl rfl) rfl rfl ?_
        refine known (t := 38) rfl (rfl) ?_
        refine lV (yMove rfl) rfl rfl ?_
        refine lGY rfl rfl rfl (oV (yLoadA (vs := [_, _]) rfl A24 (cOwn 0 rfl rfl)) rfl ?_)
        refine lGY rfl rfl rfl (oV (yBuild .n (fun w => B24_ w)) rfl ?_)
        refine lGY rfl rfl rfl (oV (yEqAgg rfl rfl G24 (fun w => Q24 w)) rfl ?_)
        refine known (t := 42) rfl (⟨rfl, rfl⟩) ?_
        refine lV (yPickT rfl rfl) rfl rfl ?_
        refine lV (yMove rfl) rfl rfl ?_
        refine lGY rfl rfl rfl (oV (yCall rfl .n C15 (fun w hw => alive_any w)) rfl ?_)
        refine lV (yPickT rfl rfl) rfl rfl ?_
        refine lV (yAssign rfl) rfl rfl ?_
        refine lNil ?_
        refine kThen ?_
        refine kRet ?_
        refine kThenR ?_
        refine fRet rfl (.t rfl .n) (endRet ?_)
        first | rfl | (simp [packV, *]; done)
end Go.Proofs.Ytoefcofplkbnkaa
