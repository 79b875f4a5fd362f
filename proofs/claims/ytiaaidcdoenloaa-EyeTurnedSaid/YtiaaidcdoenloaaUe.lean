/-
  Walk: EyeMore.
-/
import Derived.Test.YtiaaidcdoenloaaUd
namespace Go.Proofs.Ytiaaidcdoenloaa
open ZW

set_option maxRecDepth 100000 in
theorem inL_any (a b : Int × Int) (w : World) : Calls Try.prog 38 [.agg [i64 a.1, i64 a.2].toArray, .agg [i64 b.1, i64 b.2].toArray].toArray w (Ret w (.bool (decide (b.1 ≤ a.1 ∧ a.2 ≤ b.2)))) := by
  refine fEnter Try.func38 rfl Try.ntmps38 rfl ?_
  refine kSeq ?_
  refine kRegion rfl ?_
  refine lE rfl ?_
  refine eBoxA rfl fun n2 => ?_
  refine lE rfl ?_
  refine eBoxA rfl fun n3 => ?_
  refine lV (yAssign rfl) rfl rfl ?_
  refine lNil ?_
  refine kThen ?_
  refine kSeq ?_
  refine kRegion rfl ?_
  refine lV (yFieldAddr rfl F24_0) rfl rfl ?_
  refine lV (yLoad1 rfl O3 (cOwn 1 rfl rfl)) rfl rfl ?_
  refine lV (yFieldAddr rfl F24_0) rfl rfl ?_
  refine lV (yLoad1 rfl O3 (cOwn 0 rfl rfl)) rfl rfl ?_
  refine lV (yGeq rfl rfl) rfl rfl ?_
  refine lV (yMove rfl) rfl rfl ?_
  refine split (t := 10) rfl (fun h10 => ?_) (fun h10 => ?_)
  · refine lGY rfl rfl rfl (oV (yFieldAddr rfl F24_1) rfl ?_)
    refine lGY rfl rfl rfl (oV (yLoad1 rfl O3 (cOwn 1 rfl rfl)) rfl ?_)
    refine lGY rfl rfl rfl (oV (yFieldAddr rfl F24_1) rfl ?_)
    refine lGY rfl rfl rfl (oV (yLoad1 rfl O3 (cOwn 0 rfl rfl)) rfl ?_)
    refine lGY rfl rfl rfl (oV (yLeq rfl rfl) rfl ?_)
    refine lV (yPickT rfl rfl) rfl rfl ?_
    refine lV (yAssign rfl) rfl rfl ?_
    refine lNil ?_
    refine kThen ?_
    refine kRet ?_
    refine fRet rfl (.t rfl .n) (endRet ?_)
    simp [packV, *]
  · refine lGN rfl rfl rfl rfl rfl ?_
    refine lGN rfl rfl rfl rfl rfl ?_
    refine lGN rfl rfl rfl rfl rfl ?_
    refine lGN rfl rfl rfl rfl rfl ?_
    refine lGN rfl rfl rfl rfl rfl ?_
    refine lV (yPickF rfl rfl) rfl rfl ?_
    refine lV (yAssign rfl) rfl rfl ?_
    refine lNil ?_
    refine kThen ?_
    refine kRet ?_
    refine fRet rfl (.t rfl .n) (endRet ?_)
    simp [packV, *]
/-- The narrower habit, the better eye. -/
def thinH (X : Wat) (b : Nat) : Int × Int := (min 0 (X.habit.1 + (b : Int) % 5), max 0 (X.habit.2 - (b : Int) / 8 % 5))
def bestE (X : Wat) (b : Nat) : Int × Int := (min X.eyeS.2 (X.eyeS.1 + (b : Int) % 3), X.eyeS.2)
abbrev moreC (y : WLoc) (X : Wat) (l : Int × Int × Int) (g : Own) (b : Nat) : List Value := watC (locG y g) (moreW X l) ++ watC y (thinW X (thinH X b)) ++ watC y (bestW X (bestE X b))
structure PickW (X z : Wat) (yz : WLoc) (g : Own) (w : World) : Prop where
  f : WatOk z → FinerW X z
  n : z.looks.length ≤ 1000 ∧ z.errs.length ≤ 1000
  i : ∀ w', Eff w [] (osL 47 g) w' → InW w' yz z
theorem pick_more {y : WLoc} {X : Wat} {l : Int × Int × Int} {g : Own} {b i : Nat} {w : World} (hi : i < 3) (hm : InW w y X) (hM : WatOk X) (hg : OS 3 g ((X.looks ++ [l]).map rowK)) :
    ∃ (yz : WLoc) (z : Wat), sub (moreC y X l g b) (0 + ((i : Nat) : Int).toNat * 8) (watC yz z).length = some (watC yz z) ∧ PickW X z yz g w := by
  have hN := hM.n
  have hs := hM.s.n
  have hs : 1 ≤ X.errs.length ∧ X.errs.length ≤ 40 := hs
  have hh := hM.h
  have hk := hM.k
  have hy := hM.s.y
  unfold spanOk at hy
  have hy : -100 ≤ X.eyeS.1 ∧ X.eyeS.1 ≤ X.eyeS.2 ∧ X.eyeS.2 ≤ 100 := hy
  have : i = 0 ∨ i = 1 ∨ i = 2 := by omega
  rcases this with rfl | rfl | rfl
  · exact ⟨locG y g, moreW X l, rfl, fun hY => moreW_finer hM hY, ⟨by show (X.looks ++ [l]).length ≤ 1000; simp; omega, by show X.errs.length ≤ 1000; omega⟩, fun w' hw => hm.grow rfl hg hw .r⟩
  · exact ⟨y, thinW X (thinH X b), rfl, fun hY => thinW_finer hM hY (by unfold thinH; simp only; omega), ⟨by show X.looks.length ≤ 1000; omega, by show X.errs.length ≤ 1000; omega⟩, fun w' hw => ⟨(hm.eff (hw.sub .n)).e, (hm.eff (hw.sub .n)).l⟩⟩
  · exact ⟨y, bestW X (bestE X b), rfl, fun hY => bestW_finer hM hY (by unfold bestE; simp only; omega), ⟨by show X.looks.length ≤ 1000; omega, by show X.errs.length ≤ 1000; omega⟩, fun w' hw => ⟨(hm.eff (hw.sub .n)).e, (hm.eff (hw.sub .n)).l⟩⟩
set_option maxHeartbeats 4000000 in
set_option maxRecDepth 100000 in
theorem moreL_any (y : WLoc) (X : Wat) (l : Int × Int × Int) (b : Nat) (w : World) (hm : InW w y X) (hb : b < 256) : Calls Try.prog 10 [.agg (watC y X).toArray, .agg (rowK l).toArray, .int .u8 (b : Nat)].toArray w (Ret w (.bool true)) := by
  refine fEnter Try.func10 rfl Try.ntmps10 rfl ?_
  refine kSeq ?_
  refine kRegion rfl ?_
  refine lE rfl ?_
  refine eBoxA rfl fun n3 => ?_
  refine lE rfl ?_
  refine eBoxA rfl fun n4 => ?_
  refine lV (yAssign rfl) rfl rfl ?_
  refine lNil ?_
  refine kThen ?_
  refine kSeq ?_
  refine kSeq ?_
  refine kRegion rfl ?_
  refine lV (yLoadA (vs := [_, _, _, _, _, _, _, _]) rfl A29 (cOwn 1 rfl rfl)) rfl rfl ?_
  refine lV (yCall rfl (.c rfl (.c rfl .n)) C13 (fun w hw => farw_any y X 7 w (hm.eff hw))) rfl rfl ?_
  refine lV (yMove rfl) rfl rfl ?_
  refine splitB (t := 41) rfl (fun h41 => ?_) (fun h41 => ?_)
  · refine lGN rfl rfl rfl rfl rfl ?_
    refine lGN rfl rfl rfl rfl rfl ?_
    refine lGN rfl rfl rfl rfl rfl ?_
    refine lV (yPickT rfl rfl) rfl rfl ?_
    refine lNil ?_
    refine kThen ?_
    refine kIfT rfl ?_
    refine kSeq ?_
    refine kRegion rfl ?_
    refine lV (yCall rfl .n C14 (fun w hw => awake_any w)) rfl rfl ?_
    refine lV (yAssign rfl) rfl rfl ?_
    refine lNil ?_
    refine kThen ?_
    refine kRet ?_
    refine kThenR ?_
    refine fRet rfl (.t rfl .n) (endRet ?_)
    first | rfl | (simp [packV, *]; done)
  · have hG := of_decide_eq_false h41
    have hn : X.looks.length ≤ 1000000 := by unfold Far at hG; omega
    have hn2 : X.errs.length ≤ 1000000 := by unfold Far at hG; omega
    refine lGY rfl rfl rfl (oV (yLoadA (vs := [_, _, _, _, _, _, _, _]) rfl A29 (cOwn 1 rfl rfl)) rfl ?_)
    refine lGY rfl rfl rfl (oV (yCall rfl (.c rfl .n) C34 (fun w hw => watch_any y X w (hm.eff hw) hn hn2)) rfl ?_)
    refine lGY rfl rfl rfl (oV (yNot rfl) rfl ?_)
    refine lV (yPickF rfl rfl) rfl rfl ?_
    refine lNil ?_
    refine kThen ?_
    refine splitB (t := 45) rfl (fun h45 => ?_) (fun h45 => ?_)
    · refine kIfT rfl ?_
      refine kSeq ?_
      refine kRegion rfl ?_
      refine lV (yCall rfl .n C14 (fun w hw => awake_any w)) rfl rfl ?_
      refine lV (yAssign rfl) rfl rfl ?_
      refine lNil ?_
      refine kThen ?_
      refine kRet ?_
      refine kThenR ?_
      refine fRet rfl (.t rfl .n) (endRet ?_)
      first | rfl | (simp [packV, *]; done)
    · refine kIfF rfl ?_
      refine kSkip ?_
      refine kThen ?_
      refine kSeq ?_
      have hM := notF h45
      have hN := hM.n
      have hE := hM.e
      have hI := hM.i
      have hh := hM.h
      have hk2 := hM.k
      have hye := hM.s.y
      unfold spanOk at hye
      have hye : -100 ≤ X.eyeS.1 ∧ X.eyeS.1 ≤ X.eyeS.2 ∧ X.eyeS.2 ≤ 100 := hye
      have cf := set_facts hM
      have dle := cf.dle
      have hF := allS_lt hM
      refine kCutX (ι := Nat × Nat × Nat) (fun x => True) (fun x => [(7, .pointer (some ⟨x.1, 0, none⟩)), (8, .pointer (some ⟨x.2.1, 0, none⟩)), (9, .pointer (some ⟨x.2.2, 0, none⟩))]) [(0, _), (1, _), (2, _), (3, _), (4, _), (6, _)] (fun x => []) (fun x => [(x.1, blk (watC y X) 29), (x.2.1, blk (watC y X) 29), (x.2.2, blk (watC y X) 29)]) [(n3, _), (n4, _)] (.c rfl (.c rfl (.c rfl (.c rfl (.c rfl (.c rfl .n)))))) (.c 1 rfl (.c 0 rfl .n)) ?_ (fun x _ => ?_)
      · refine kDrawE [(0, none), (1, none), (2, none)] [] [0, 1, 2] 6 hMix (by kernel_rfl) ?_
        refine .run rfl (yLoadA (vs := [_, _, _, _, _, _, _, _]) rfl A29 (cOwn 1 rfl rfl)) rfl rfl ?_
        refine .run rfl (yLoadA (vs := [_, _, _, _, _, _, _, _]) rfl A29 (cOwn 1 rfl rfl)) rfl rfl ?_
        refine .run rfl (yLoadA (vs := [_, _, _, _, _, _, _, _]) rfl A29 (cOwn 1 rfl rfl)) rfl rfl ?_
        refine .done ?_
        refine effStep 3 [4, 5] (by kernel_rfl) closedSt (hLeft [0, 1, 2] (by kernel_rfl) (.c (fun _ _ hs => hs.ef) (.c (fun _ _ hs => hs.ef) (.c (fun _ _ hs => hs.ef) .n)))) ?_
        refine (.c ?_ (.c ?_ (.c ?_ .n)))
        · refine effOne rfl (gNone rfl (fAlloc Z29)) ?_
          refine effStep 4 [5] (by kernel_rfl) (closedEx fun n7 => closedSt) (hLeft [0, 1, 2] (by kernel_rfl) (.c (fun _ _ ⟨n7, hs⟩ => hs.ef.sub (.c 1 rfl (.c 1 rfl .n))) (.c (fun _ _ ⟨n7, hs⟩ => hs.ef.sub (.c 1 rfl (.c 1 rfl .n))) (.c (fun _ _ ⟨n7, hs⟩ => hs.ef.sub (.c 1 rfl (.c 1 rfl .n))) .n)))) ?_
          refine (.c ?_ (.c ?_ .n))
          · refine effOne rfl (opEx fun n7 => (gNone rfl (fAlloc Z29))) ?_
            refine effStep 5 [] (by kernel_rfl) (closedEx fun n7 => (closedEx fun n8 => closedSt)) (hLeft [0, 1, 2] (by kernel_rfl) (.c (fun _ _ ⟨n7, ⟨n8, hs⟩⟩ => hs.ef.sub (.c 2 rfl (.c 2 rfl .n))) (.c (fun _ _ ⟨n7, ⟨n8, hs⟩⟩ => hs.ef.sub (.c 2 rfl (.c 2 rfl .n))) (.c (fun _ _ ⟨n7, ⟨n8, hs⟩⟩ => hs.ef.sub (.c 2 rfl (.c 2 rfl .n))) .n)))) ?_
            refine .c ?_ .n
            refine effOne rfl (opEx fun n7 => (opEx fun n8 => (gNone rfl (fAlloc Z29)))) ?_
            refine effStep 6 [] (by kernel_rfl) (closedEx fun n7 => (closedEx fun n8 => (closedEx fun n9 => closedSt))) (hLeft [0, 1, 2] (by kernel_rfl) (.c (fun _ _ ⟨n7, ⟨n8, ⟨n9, hs⟩⟩⟩ => hs.ef.sub (.c 3 rfl (.c 3 rfl .n))) (.c (fun _ _ ⟨n7, ⟨n8, ⟨n9, hs⟩⟩⟩ => hs.ef.sub (.c 3 rfl (.c 3 rfl .n))) (.c (fun _ _ ⟨n7, ⟨n8, ⟨n9, hs⟩⟩⟩ => hs.ef.sub (.c 3 rfl (.c 3 rfl .n))) .n)))) ?_
            refine .c ?_ .n
            refine effOne rfl (opEx fun n7 => (opEx fun n8 => (opEx fun n9 => (gNone rfl (fStoreL 2 rfl rfl rfl rfl K29 rfl (rfl)))))) ?_
            refine effStep 7 [] (by kernel_rfl) (closedEx fun n7 => (closedEx fun n8 => (closedEx fun n9 => closedSt))) (hLeft [1, 2] (by kernel_rfl) (.c (fun _ _ ⟨n7, ⟨n8, ⟨n9, hs⟩⟩⟩ => hs.ef.sub (.c 3 rfl (.c 3 rfl .n))) (.c (fun _ _ ⟨n7, ⟨n8, ⟨n9, hs⟩⟩⟩ => hs.ef.sub (.c 3 rfl (.c 3 rfl .n))) .n))) ?_
            refine .c ?_ .n
            refine effOne rfl (opEx fun n7 => (opEx fun n8 => (opEx fun n9 => (gNone rfl (fStoreL 1 rfl rfl rfl rfl K29 rfl (rfl)))))) ?_
            refine effStep 8 [] (by kernel_rfl) (closedEx fun n7 => (closedEx fun n8 => (closedEx fun n9 => closedSt))) (hLeft [2] (by kernel_rfl) (.c (fun _ _ ⟨n7, ⟨n8, ⟨n9, hs⟩⟩⟩ => hs.ef.sub (.c 3 rfl (.c 3 rfl .n))) .n)) ?_
            refine .c ?_ .n
            refine effOne rfl (opEx fun n7 => (opEx fun n8 => (opEx fun n9 => (gNone rfl (fStoreL 0 rfl rfl rfl rfl K29 rfl (rfl)))))) ?_
            refine effDone (closedEx fun n7 => (closedEx fun n8 => (closedEx fun n9 => closedSt))) (hLeft [] (by kernel_rfl) .n) (by kernel_rfl) ?_
            refine trEx fun n7 => ?_
            refine trEx fun n8 => ?_
            refine trEx fun n9 => ?_
            exact kMeetX ((n7, n8, n9)) (trivial) rfl (.c rfl (.c rfl (.c rfl .n))) (.c rfl (.c rfl (.c rfl (.c rfl (.c rfl (.c rfl .n)))))) (.c 4 rfl (.c 3 rfl (.c 2 rfl (.c 1 rfl (.c 0 rfl .n)))))
          · refine effOne rfl (opEx fun n7 => (gNone rfl (fAlloc Z29))) ?_
            refine effStep 4 [] (by kernel_rfl) (closedEx fun n7 => (closedEx fun n9 => closedSt)) (hLeft [0, 1, 2] (by kernel_rfl) (.c (fun _ _ ⟨n7, ⟨n9, hs⟩⟩ => hs.ef.sub (.c 2 rfl (.c 2 rfl .n))) (.c (fun _ _ ⟨n7, ⟨n9, hs⟩⟩ => hs.ef.sub (.c 2 rfl (.c 2 rfl .n))) (.c (fun _ _ ⟨n7, ⟨n9, hs⟩⟩ => hs.ef.sub (.c 2 rfl (.c 2 rfl .n))) .n)))) ?_
            refine .c ?_ .n
            refine effOne rfl (opEx fun n7 => (opEx fun n9 => (gNone rfl (fAlloc Z29)))) ?_
            refine effStep 6 [] (by kernel_rfl) (closedEx fun n7 => (closedEx fun n9 => (closedEx fun n8 => closedSt))) (hLeft [0, 1, 2] (by kernel_rfl) (.c (fun _ _ ⟨n7, ⟨n9, ⟨n8, hs⟩⟩⟩ => hs.ef.sub (.c 3 rfl (.c 3 rfl .n))) (.c (fun _ _ ⟨n7, ⟨n9, ⟨n8, hs⟩⟩⟩ => hs.ef.sub (.c 3 rfl (.c 3 rfl .n))) (.c (fun _ _ ⟨n7, ⟨n9, ⟨n8, hs⟩⟩⟩ => hs.ef.sub (.c 3 rfl (.c 3 rfl .n))) .n)))) ?_
            refine .c ?_ .n
            refine effOne rfl (opEx fun n7 => (opEx fun n9 => (opEx fun n8 => (gNone rfl (fStoreL 2 rfl rfl rfl rfl K29 rfl (rfl)))))) ?_
            refine effStep 7 [] (by kernel_rfl) (closedEx fun n7 => (closedEx fun n9 => (closedEx fun n8 => closedSt))) (hLeft [1, 2] (by kernel_rfl) (.c (fun _ _ ⟨n7, ⟨n9, ⟨n8, hs⟩⟩⟩ => hs.ef.sub (.c 3 rfl (.c 3 rfl .n))) (.c (fun _ _ ⟨n7, ⟨n9, ⟨n8, hs⟩⟩⟩ => hs.ef.sub (.c 3 rfl (.c 3 rfl .n))) .n))) ?_
            refine .c ?_ .n
            refine effOne rfl (opEx fun n7 => (opEx fun n9 => (opEx fun n8 => (gNone rfl (fStoreL 0 rfl rfl rfl rfl K29 rfl (rfl)))))) ?_
            refine effStep 8 [] (by kernel_rfl) (closedEx fun n7 => (closedEx fun n9 => (closedEx fun n8 => closedSt))) (hLeft [2] (by kernel_rfl) (.c (fun _ _ ⟨n7, ⟨n9, ⟨n8, hs⟩⟩⟩ => hs.ef.sub (.c 3 rfl (.c 3 rfl .n))) .n)) ?_
            refine .c ?_ .n
            refine effOne rfl (opEx fun n7 => (opEx fun n9 => (opEx fun n8 => (gNone rfl (fStoreL 1 rfl rfl rfl rfl K29 rfl (rfl)))))) ?_
            refine effDone (closedEx fun n7 => (closedEx fun n9 => (closedEx fun n8 => closedSt))) (hLeft [] (by kernel_rfl) .n) (by kernel_rfl) ?_
            refine trEx fun n7 => ?_
            refine trEx fun n9 => ?_
            refine trEx fun n8 => ?_
            exact kMeetX ((n7, n8, n9)) (trivial) rfl (.c rfl (.c rfl (.c rfl .n))) (.c rfl (.c rfl (.c rfl (.c rfl (.c rfl (.c rfl .n)))))) (.c 4 rfl (.c 3 rfl (.c 2 rfl (.c 0 rfl (.c 0 rfl .n)))))
        · refine effOne rfl (gNone rfl (fAlloc Z29)) ?_
          refine effStep 3 [5] (by kernel_rfl) (closedEx fun n8 => closedSt) (hLeft [0, 1, 2] (by kernel_rfl) (.c (fun _ _ ⟨n8, hs⟩ => hs.ef.sub (.c 1 rfl (.c 1 rfl .n))) (.c (fun _ _ ⟨n8, hs⟩ => hs.ef.sub (.c 1 rfl (.c 1 rfl .n))) (.c (fun _ _ ⟨n8, hs⟩ => hs.ef.sub (.c 1 rfl (.c 1 rfl .n))) .n)))) ?_
          refine (.c ?_ (.c ?_ .n))
          · refine effOne rfl (opEx fun n8 => (gNone rfl (fAlloc Z29))) ?_
            refine effStep 5 [] (by kernel_rfl) (closedEx fun n8 => (closedEx fun n7 => closedSt)) (hLeft [0, 1, 2] (by kernel_rfl) (.c (fun _ _ ⟨n8, ⟨n7, hs⟩⟩ => hs.ef.sub (.c 2 rfl (.c 2 rfl .n))) (.c (fun _ _ ⟨n8, ⟨n7, hs⟩⟩ => hs.ef.sub (.c 2 rfl (.c 2 rfl .n))) (.c (fun _ _ ⟨n8, ⟨n7, hs⟩⟩ => hs.ef.sub (.c 2 rfl (.c 2 rfl .n))) .n)))) ?_
            refine .c ?_ .n
            refine effOne rfl (opEx fun n8 => (opEx fun n7 => (gNone rfl (fAlloc Z29)))) ?_
            refine effStep 6 [] (by kernel_rfl) (closedEx fun n8 => (closedEx fun n7 => (closedEx fun n9 => closedSt))) (hLeft [0, 1, 2] (by kernel_rfl) (.c (fun _ _ ⟨n8, ⟨n7, ⟨n9, hs⟩⟩⟩ => hs.ef.sub (.c 3 rfl (.c 3 rfl .n))) (.c (fun _ _ ⟨n8, ⟨n7, ⟨n9, hs⟩⟩⟩ => hs.ef.sub (.c 3 rfl (.c 3 rfl .n))) (.c (fun _ _ ⟨n8, ⟨n7, ⟨n9, hs⟩⟩⟩ => hs.ef.sub (.c 3 rfl (.c 3 rfl .n))) .n)))) ?_
            refine .c ?_ .n
            refine effOne rfl (opEx fun n8 => (opEx fun n7 => (opEx fun n9 => (gNone rfl (fStoreL 1 rfl rfl rfl rfl K29 rfl (rfl)))))) ?_
            refine effStep 7 [] (by kernel_rfl) (closedEx fun n8 => (closedEx fun n7 => (closedEx fun n9 => closedSt))) (hLeft [1, 2] (by kernel_rfl) (.c (fun _ _ ⟨n8, ⟨n7, ⟨n9, hs⟩⟩⟩ => hs.ef.sub (.c 3 rfl (.c 3 rfl .n))) (.c (fun _ _ ⟨n8, ⟨n7, ⟨n9, hs⟩⟩⟩ => hs.ef.sub (.c 3 rfl (.c 3 rfl .n))) .n))) ?_
            refine .c ?_ .n
            refine effOne rfl (opEx fun n8 => (opEx fun n7 => (opEx fun n9 => (gNone rfl (fStoreL 2 rfl rfl rfl rfl K29 rfl (rfl)))))) ?_
            refine effStep 8 [] (by kernel_rfl) (closedEx fun n8 => (closedEx fun n7 => (closedEx fun n9 => closedSt))) (hLeft [2] (by kernel_rfl) (.c (fun _ _ ⟨n8, ⟨n7, ⟨n9, hs⟩⟩⟩ => hs.ef.sub (.c 3 rfl (.c 3 rfl .n))) .n)) ?_
            refine .c ?_ .n
            refine effOne rfl (opEx fun n8 => (opEx fun n7 => (opEx fun n9 => (gNone rfl (fStoreL 0 rfl rfl rfl rfl K29 rfl (rfl)))))) ?_
            refine effDone (closedEx fun n8 => (closedEx fun n7 => (closedEx fun n9 => closedSt))) (hLeft [] (by kernel_rfl) .n) (by kernel_rfl) ?_
            refine trEx fun n8 => ?_
            refine trEx fun n7 => ?_
            refine trEx fun n9 => ?_
            exact kMeetX ((n7, n8, n9)) (trivial) rfl (.c rfl (.c rfl (.c rfl .n))) (.c rfl (.c rfl (.c rfl (.c rfl (.c rfl (.c rfl .n)))))) (.c 4 rfl (.c 3 rfl (.c 1 rfl (.c 1 rfl (.c 0 rfl .n)))))
          · refine effOne rfl (opEx fun n8 => (gNone rfl (fAlloc Z29))) ?_
            refine effStep 3 [] (by kernel_rfl) (closedEx fun n8 => (closedEx fun n9 => closedSt)) (hLeft [0, 1, 2] (by kernel_rfl) (.c (fun _ _ ⟨n8, ⟨n9, hs⟩⟩ => hs.ef.sub (.c 2 rfl (.c 2 rfl .n))) (.c (fun _ _ ⟨n8, ⟨n9, hs⟩⟩ => hs.ef.sub (.c 2 rfl (.c 2 rfl .n))) (.c (fun _ _ ⟨n8, ⟨n9, hs⟩⟩ => hs.ef.sub (.c 2 rfl (.c 2 rfl .n))) .n)))) ?_
            refine .c ?_ .n
            refine effOne rfl (opEx fun n8 => (opEx fun n9 => (gNone rfl (fAlloc Z29)))) ?_
            refine effStep 6 [] (by kernel_rfl) (closedEx fun n8 => (closedEx fun n9 => (closedEx fun n7 => closedSt))) (hLeft [0, 1, 2] (by kernel_rfl) (.c (fun _ _ ⟨n8, ⟨n9, ⟨n7, hs⟩⟩⟩ => hs.ef.sub (.c 3 rfl (.c 3 rfl .n))) (.c (fun _ _ ⟨n8, ⟨n9, ⟨n7, hs⟩⟩⟩ => hs.ef.sub (.c 3 rfl (.c 3 rfl .n))) (.c (fun _ _ ⟨n8, ⟨n9, ⟨n7, hs⟩⟩⟩ => hs.ef.sub (.c 3 rfl (.c 3 rfl .n))) .n)))) ?_
            refine .c ?_ .n
            refine effOne rfl (opEx fun n8 => (opEx fun n9 => (opEx fun n7 => (gNone rfl (fStoreL 0 rfl rfl rfl rfl K29 rfl (rfl)))))) ?_
            refine effStep 7 [] (by kernel_rfl) (closedEx fun n8 => (closedEx fun n9 => (closedEx fun n7 => closedSt))) (hLeft [1, 2] (by kernel_rfl) (.c (fun _ _ ⟨n8, ⟨n9, ⟨n7, hs⟩⟩⟩ => hs.ef.sub (.c 3 rfl (.c 3 rfl .n))) (.c (fun _ _ ⟨n8, ⟨n9, ⟨n7, hs⟩⟩⟩ => hs.ef.sub (.c 3 rfl (.c 3 rfl .n))) .n))) ?_
            refine .c ?_ .n
            refine effOne rfl (opEx fun n8 => (opEx fun n9 => (opEx fun n7 => (gNone rfl (fStoreL 2 rfl rfl rfl rfl K29 rfl (rfl)))))) ?_
            refine effStep 8 [] (by kernel_rfl) (closedEx fun n8 => (closedEx fun n9 => (closedEx fun n7 => closedSt))) (hLeft [2] (by kernel_rfl) (.c (fun _ _ ⟨n8, ⟨n9, ⟨n7, hs⟩⟩⟩ => hs.ef.sub (.c 3 rfl (.c 3 rfl .n))) .n)) ?_
            refine .c ?_ .n
            refine effOne rfl (opEx fun n8 => (opEx fun n9 => (opEx fun n7 => (gNone rfl (fStoreL 1 rfl rfl rfl rfl K29 rfl (rfl)))))) ?_
            refine effDone (closedEx fun n8 => (closedEx fun n9 => (closedEx fun n7 => closedSt))) (hLeft [] (by kernel_rfl) .n) (by kernel_rfl) ?_
            refine trEx fun n8 => ?_
            refine trEx fun n9 => ?_
            refine trEx fun n7 => ?_
            exact kMeetX ((n7, n8, n9)) (trivial) rfl (.c rfl (.c rfl (.c rfl .n))) (.c rfl (.c rfl (.c rfl (.c rfl (.c rfl (.c rfl .n)))))) (.c 4 rfl (.c 3 rfl (.c 0 rfl (.c 1 rfl (.c 0 rfl .n)))))
        · refine effOne rfl (gNone rfl (fAlloc Z29)) ?_
          refine effStep 3 [4] (by kernel_rfl) (closedEx fun n9 => closedSt) (hLeft [0, 1, 2] (by kernel_rfl) (.c (fun _ _ ⟨n9, hs⟩ => hs.ef.sub (.c 1 rfl (.c 1 rfl .n))) (.c (fun _ _ ⟨n9, hs⟩ => hs.ef.sub (.c 1 rfl (.c 1 rfl .n))) (.c (fun _ _ ⟨n9, hs⟩ => hs.ef.sub (.c 1 rfl (.c 1 rfl .n))) .n)))) ?_
          refine (.c ?_ (.c ?_ .n))
          · refine effOne rfl (opEx fun n9 => (gNone rfl (fAlloc Z29))) ?_
            refine effStep 4 [] (by kernel_rfl) (closedEx fun n9 => (closedEx fun n7 => closedSt)) (hLeft [0, 1, 2] (by kernel_rfl) (.c (fun _ _ ⟨n9, ⟨n7, hs⟩⟩ => hs.ef.sub (.c 2 rfl (.c 2 rfl .n))) (.c (fun _ _ ⟨n9, ⟨n7, hs⟩⟩ => hs.ef.sub (.c 2 rfl (.c 2 rfl .n))) (.c (fun _ _ ⟨n9, ⟨n7, hs⟩⟩ => hs.ef.sub (.c 2 rfl (.c 2 rfl .n))) .n)))) ?_
            refine .c ?_ .n
            refine effOne rfl (opEx fun n9 => (opEx fun n7 => (gNone rfl (fAlloc Z29)))) ?_
            refine effStep 6 [] (by kernel_rfl) (closedEx fun n9 => (closedEx fun n7 => (closedEx fun n8 => closedSt))) (hLeft [0, 1, 2] (by kernel_rfl) (.c (fun _ _ ⟨n9, ⟨n7, ⟨n8, hs⟩⟩⟩ => hs.ef.sub (.c 3 rfl (.c 3 rfl .n))) (.c (fun _ _ ⟨n9, ⟨n7, ⟨n8, hs⟩⟩⟩ => hs.ef.sub (.c 3 rfl (.c 3 rfl .n))) (.c (fun _ _ ⟨n9, ⟨n7, ⟨n8, hs⟩⟩⟩ => hs.ef.sub (.c 3 rfl (.c 3 rfl .n))) .n)))) ?_
            refine .c ?_ .n
            refine effOne rfl (opEx fun n9 => (opEx fun n7 => (opEx fun n8 => (gNone rfl (fStoreL 1 rfl rfl rfl rfl K29 rfl (rfl)))))) ?_
            refine effStep 7 [] (by kernel_rfl) (closedEx fun n9 => (closedEx fun n7 => (closedEx fun n8 => closedSt))) (hLeft [1, 2] (by kernel_rfl) (.c (fun _ _ ⟨n9, ⟨n7, ⟨n8, hs⟩⟩⟩ => hs.ef.sub (.c 3 rfl (.c 3 rfl .n))) (.c (fun _ _ ⟨n9, ⟨n7, ⟨n8, hs⟩⟩⟩ => hs.ef.sub (.c 3 rfl (.c 3 rfl .n))) .n))) ?_
            refine .c ?_ .n
            refine effOne rfl (opEx fun n9 => (opEx fun n7 => (opEx fun n8 => (gNone rfl (fStoreL 0 rfl rfl rfl rfl K29 rfl (rfl)))))) ?_
            refine effStep 8 [] (by kernel_rfl) (closedEx fun n9 => (closedEx fun n7 => (closedEx fun n8 => closedSt))) (hLeft [2] (by kernel_rfl) (.c (fun _ _ ⟨n9, ⟨n7, ⟨n8, hs⟩⟩⟩ => hs.ef.sub (.c 3 rfl (.c 3 rfl .n))) .n)) ?_
            refine .c ?_ .n
            refine effOne rfl (opEx fun n9 => (opEx fun n7 => (opEx fun n8 => (gNone rfl (fStoreL 2 rfl rfl rfl rfl K29 rfl (rfl)))))) ?_
            refine effDone (closedEx fun n9 => (closedEx fun n7 => (closedEx fun n8 => closedSt))) (hLeft [] (by kernel_rfl) .n) (by kernel_rfl) ?_
            refine trEx fun n9 => ?_
            refine trEx fun n7 => ?_
            refine trEx fun n8 => ?_
            exact kMeetX ((n7, n8, n9)) (trivial) rfl (.c rfl (.c rfl (.c rfl .n))) (.c rfl (.c rfl (.c rfl (.c rfl (.c rfl (.c rfl .n)))))) (.c 4 rfl (.c 3 rfl (.c 1 rfl (.c 0 rfl (.c 0 rfl .n)))))
          · refine effOne rfl (opEx fun n9 => (gNone rfl (fAlloc Z29))) ?_
            refine effStep 3 [] (by kernel_rfl) (closedEx fun n9 => (closedEx fun n8 => closedSt)) (hLeft [0, 1, 2] (by kernel_rfl) (.c (fun _ _ ⟨n9, ⟨n8, hs⟩⟩ => hs.ef.sub (.c 2 rfl (.c 2 rfl .n))) (.c (fun _ _ ⟨n9, ⟨n8, hs⟩⟩ => hs.ef.sub (.c 2 rfl (.c 2 rfl .n))) (.c (fun _ _ ⟨n9, ⟨n8, hs⟩⟩ => hs.ef.sub (.c 2 rfl (.c 2 rfl .n))) .n)))) ?_
            refine .c ?_ .n
            refine effOne rfl (opEx fun n9 => (opEx fun n8 => (gNone rfl (fAlloc Z29)))) ?_
            refine effStep 6 [] (by kernel_rfl) (closedEx fun n9 => (closedEx fun n8 => (closedEx fun n7 => closedSt))) (hLeft [0, 1, 2] (by kernel_rfl) (.c (fun _ _ ⟨n9, ⟨n8, ⟨n7, hs⟩⟩⟩ => hs.ef.sub (.c 3 rfl (.c 3 rfl .n))) (.c (fun _ _ ⟨n9, ⟨n8, ⟨n7, hs⟩⟩⟩ => hs.ef.sub (.c 3 rfl (.c 3 rfl .n))) (.c (fun _ _ ⟨n9, ⟨n8, ⟨n7, hs⟩⟩⟩ => hs.ef.sub (.c 3 rfl (.c 3 rfl .n))) .n)))) ?_
            refine .c ?_ .n
            refine effOne rfl (opEx fun n9 => (opEx fun n8 => (opEx fun n7 => (gNone rfl (fStoreL 0 rfl rfl rfl rfl K29 rfl (rfl)))))) ?_
            refine effStep 7 [] (by kernel_rfl) (closedEx fun n9 => (closedEx fun n8 => (closedEx fun n7 => closedSt))) (hLeft [1, 2] (by kernel_rfl) (.c (fun _ _ ⟨n9, ⟨n8, ⟨n7, hs⟩⟩⟩ => hs.ef.sub (.c 3 rfl (.c 3 rfl .n))) (.c (fun _ _ ⟨n9, ⟨n8, ⟨n7, hs⟩⟩⟩ => hs.ef.sub (.c 3 rfl (.c 3 rfl .n))) .n))) ?_
            refine .c ?_ .n
            refine effOne rfl (opEx fun n9 => (opEx fun n8 => (opEx fun n7 => (gNone rfl (fStoreL 1 rfl rfl rfl rfl K29 rfl (rfl)))))) ?_
            refine effStep 8 [] (by kernel_rfl) (closedEx fun n9 => (closedEx fun n8 => (closedEx fun n7 => closedSt))) (hLeft [2] (by kernel_rfl) (.c (fun _ _ ⟨n9, ⟨n8, ⟨n7, hs⟩⟩⟩ => hs.ef.sub (.c 3 rfl (.c 3 rfl .n))) .n)) ?_
            refine .c ?_ .n
            refine effOne rfl (opEx fun n9 => (opEx fun n8 => (opEx fun n7 => (gNone rfl (fStoreL 2 rfl rfl rfl rfl K29 rfl (rfl)))))) ?_
            refine effDone (closedEx fun n9 => (closedEx fun n8 => (closedEx fun n7 => closedSt))) (hLeft [] (by kernel_rfl) .n) (by kernel_rfl) ?_
            refine trEx fun n9 => ?_
            refine trEx fun n8 => ?_
            refine trEx fun n7 => ?_
            exact kMeetX ((n7, n8, n9)) (trivial) rfl (.c rfl (.c rfl (.c rfl .n))) (.c rfl (.c rfl (.c rfl (.c rfl (.c rfl (.c rfl .n)))))) (.c 4 rfl (.c 3 rfl (.c 0 rfl (.c 0 rfl (.c 0 rfl .n)))))
      · obtain ⟨n7, n8, n9⟩ := x
        dsimp only
        refine kSeq ?_
        refine kCutX (ι := Own) (fun g => OS 3 g ((X.looks ++ [l]).map rowK)) (fun g => []) [(0, _), (1, _), (2, _), (3, _), (4, _), (6, _), (7, _), (8, _), (9, _)] (fun g => []) (fun g => ([(n7, blk (partC y X g (([] ++ X.looks.map rowK) ++ [rowK l]).length) 29)] ++ osL 47 g)) [(n8, _), (n9, _), (n3, _), (n4, _)] (.c rfl (.c rfl (.c rfl (.c rfl (.c rfl (.c rfl (.c rfl (.c rfl (.c rfl .n))))))))) (.c 3 rfl (.c 3 rfl (.c 0 rfl (.c 0 rfl .n)))) ?_ (fun g hg => ?_)
        · refine kDrawE [(2, none), (4, none)] [] [1, 2, 4, 7] 5 hMix (by kernel_rfl) ?_
          refine .run rfl (yFieldAddr rfl F29_4) rfl rfl ?_
          refine .run rfl (yLoad1 rfl O27 (cOwn 0 rfl rfl)) rfl rfl ?_
          refine .run rfl (yLoadA (vs := [_, _, _]) rfl A47 (cOwn 1 rfl rfl)) rfl rfl ?_
          refine .run rfl (yFieldAddr rfl F29_4) rfl rfl ?_
          refine .done ?_
          refine effStep 0 [5] (by kernel_rfl) closedSt (hLeft [2, 4] (by kernel_rfl) (.c (fun _ _ hs => hs.ef) (.c (fun _ _ hs => hs.ef) .n))) ?_
          refine (.c ?_ (.c ?_ .n))
          · refine effOne rfl (gNone rfl (fBuildSlice .n (fun w => BS27_0_ w))) ?_
            refine effStep 3 [5] (by kernel_rfl) (closedEx fun n50 => closedSt) (hLeft [2, 4] (by kernel_rfl) (.c (fun _ _ ⟨n50, hs⟩ => hs.ef.sub (.c 1 rfl (.c 1 rfl (.c 1 rfl (.c 1 rfl (.c 1 rfl .n)))))) (.c (fun _ _ ⟨n50, hs⟩ => hs.ef.sub (.c 1 rfl (.c 1 rfl (.c 1 rfl (.c 1 rfl (.c 1 rfl .n)))))) .n))) ?_
            refine (.c ?_ (.c ?_ .n))
            · refine effOne rfl (opEx fun n50 => (gNone rfl (fAppend (gs := .b n50 0 []) [(n3, _), (n4, _), (n7, _), (n8, _), (n9, _)] (es := []) (X.looks.map rowK) AP27 rfl rfl (.c 1 rfl (.c 1 rfl (.c 1 rfl (.c 1 rfl (.c 1 rfl (.c 0 rfl .n)))))) (OS.lit (es := []) (by simp) rfl (by decide)) (by simp) (rowsK_len X.looks) (flatten_range (f := rowK) X.looks look0 ▸ SlN.sl hm.l.r) (rowsK_one X.looks) (by simp; omega) (by simp; omega)))) ?_
              refine effStep 5 [] (by kernel_rfl) (closedEx fun n50 => (closedEx fun h => closedSt)) (hLeft [4] (by kernel_rfl) (.c (fun _ _ ⟨n50, ⟨h, hs⟩⟩ => hs.ef.sub (.c 0 rfl (.c 0 rfl (.c 0 rfl (.c 0 rfl (.c 0 rfl .n)))))) .n)) ?_
              refine .c ?_ .n
              refine effOne rfl (opEx fun n50 => (opEx fun h => (gNone rfl (fBuildSlice (.c rfl .n) (fun w => BS27_1_0 w))))) ?_
              refine effStep 6 [] (by kernel_rfl) (closedEx fun n50 => (closedEx fun h => (closedEx fun n55 => closedSt))) (hLeft [] (by kernel_rfl) .n) ?_
              refine .c ?_ .n
              refine effOne rfl (opEx fun n50 => (opEx fun h => (opEx fun n55 => (gNone rfl (fAppend (gs := h.1) [(n55, _), (n3, _), (n4, _), (n7, _), (n8, _), (n9, _)] [rowK l] AP27 rfl rfl .r h.2 rfl (rowsK_len [l]) (SlN.own 0 rfl rfl) (rowsK_one [l]) (by simp; omega) (by simp; omega)))))) ?_
              refine effStep 8 [] (by kernel_rfl) (closedEx fun n50 => (closedEx fun h => (closedEx fun n55 => (closedEx fun k => closedSt)))) (hLeft [] (by kernel_rfl) .n) ?_
              refine .c ?_ .n
              refine effOne rfl (opEx fun n50 => (opEx fun h => (opEx fun n55 => (opEx fun k => (gNone rfl (fStoreL 3 rfl rfl rfl rfl K27 rfl (rfl))))))) ?_
              refine effDone (closedEx fun n50 => (closedEx fun h => (closedEx fun n55 => (closedEx fun k => closedSt)))) (hLeft [] (by kernel_rfl) .n) (by kernel_rfl) ?_
              refine trEx fun n50 => ?_
              refine trEx fun h => ?_
              refine trEx fun n55 => ?_
              refine trEx fun k => ?_
              exact kMeetX (k.1) (by simpa using k.2) rfl .n (.c rfl (.c rfl (.c rfl (.c rfl (.c rfl (.c rfl (.c rfl (.c rfl (.c rfl .n))))))))) (.c 4 rfl (.c 4 rfl (.c 1 rfl (.c 1 rfl (.c 1 rfl (.d 0 .r))))))
            · refine effOne rfl (opEx fun n50 => (gNone rfl (fBuildSlice (.c rfl .n) (fun w => BS27_1_0 w)))) ?_
              refine effStep 3 [] (by kernel_rfl) (closedEx fun n50 => (closedEx fun n55 => closedSt)) (hLeft [2] (by kernel_rfl) (.c (fun _ _ ⟨n50, ⟨n55, hs⟩⟩ => hs.ef.sub (.c 2 rfl (.c 2 rfl (.c 2 rfl (.c 2 rfl (.c 2 rfl .n)))))) .n)) ?_
              refine .c ?_ .n
              refine effOne rfl (opEx fun n50 => (opEx fun n55 => (gNone rfl (fAppend (gs := .b n50 0 []) [(n55, _), (n3, _), (n4, _), (n7, _), (n8, _), (n9, _)] (es := []) (X.looks.map rowK) AP27 rfl rfl (.c 0 rfl (.c 1 rfl (.c 1 rfl (.c 1 rfl (.c 1 rfl (.c 1 rfl (.c 0 rfl .n))))))) (OS.lit (es := []) (by simp) rfl (by decide)) (by simp) (rowsK_len X.looks) (flatten_range (f := rowK) X.looks look0 ▸ SlN.sl hm.l.r) (rowsK_one X.looks) (by simp; omega) (by simp; omega))))) ?_
              refine effStep 6 [] (by kernel_rfl) (closedEx fun n50 => (closedEx fun n55 => (closedEx fun h => closedSt))) (hLeft [] (by kernel_rfl) .n) ?_
              refine .c ?_ .n
              refine effOne rfl (opEx fun n50 => (opEx fun n55 => (opEx fun h => (gNone rfl (fAppend (gs := h.1) [(n55, _), (n3, _), (n4, _), (n7, _), (n8, _), (n9, _)] [rowK l] AP27 rfl rfl .r h.2 rfl (rowsK_len [l]) (SlN.own 0 rfl rfl) (rowsK_one [l]) (by simp; omega) (by simp; omega)))))) ?_
              refine effStep 8 [] (by kernel_rfl) (closedEx fun n50 => (closedEx fun n55 => (closedEx fun h => (closedEx fun k => closedSt)))) (hLeft [] (by kernel_rfl) .n) ?_
              refine .c ?_ .n
              refine effOne rfl (opEx fun n50 => (opEx fun n55 => (opEx fun h => (opEx fun k => (gNone rfl (fStoreL 3 rfl rfl rfl rfl K27 rfl (rfl))))))) ?_
              refine effDone (closedEx fun n50 => (closedEx fun n55 => (closedEx fun h => (closedEx fun k => closedSt)))) (hLeft [] (by kernel_rfl) .n) (by kernel_rfl) ?_
              refine trEx fun n50 => ?_
              refine trEx fun n55 => ?_
              refine trEx fun h => ?_
              refine trEx fun k => ?_
              exact kMeetX (k.1) (by simpa using k.2) rfl .n (.c rfl (.c rfl (.c rfl (.c rfl (.c rfl (.c rfl (.c rfl (.c rfl (.c rfl .n))))))))) (.c 4 rfl (.c 4 rfl (.c 1 rfl (.c 1 rfl (.c 1 rfl (.d 0 .r))))))
          · refine effOne rfl (gNone rfl (fBuildSlice (.c rfl .n) (fun w => BS27_1_0 w))) ?_
            refine effStep 0 [] (by kernel_rfl) (closedEx fun n55 => closedSt) (hLeft [2] (by kernel_rfl) (.c (fun _ _ ⟨n55, hs⟩ => hs.ef.sub (.c 1 rfl (.c 1 rfl (.c 1 rfl (.c 1 rfl (.c 1 rfl .n)))))) .n)) ?_
            refine .c ?_ .n
            refine effOne rfl (opEx fun n55 => (gNone rfl (fBuildSlice .n (fun w => BS27_0_ w)))) ?_
            refine effStep 3 [] (by kernel_rfl) (closedEx fun n55 => (closedEx fun n50 => closedSt)) (hLeft [2] (by kernel_rfl) (.c (fun _ _ ⟨n55, ⟨n50, hs⟩⟩ => hs.ef.sub (.c 2 rfl (.c 2 rfl (.c 2 rfl (.c 2 rfl (.c 2 rfl .n)))))) .n)) ?_
            refine .c ?_ .n
            refine effOne rfl (opEx fun n55 => (opEx fun n50 => (gNone rfl (fAppend (gs := .b n50 0 []) [(n55, _), (n3, _), (n4, _), (n7, _), (n8, _), (n9, _)] (es := []) (X.looks.map rowK) AP27 rfl rfl (.c 1 rfl (.c 1 rfl (.c 1 rfl (.c 1 rfl (.c 1 rfl (.c 1 rfl (.c 0 rfl .n))))))) (OS.lit (es := []) (by simp) rfl (by decide)) (by simp) (rowsK_len X.looks) (flatten_range (f := rowK) X.looks look0 ▸ SlN.sl hm.l.r) (rowsK_one X.looks) (by simp; omega) (by simp; omega))))) ?_
            refine effStep 6 [] (by kernel_rfl) (closedEx fun n55 => (closedEx fun n50 => (closedEx fun h => closedSt))) (hLeft [] (by kernel_rfl) .n) ?_
            refine .c ?_ .n
            refine effOne rfl (opEx fun n55 => (opEx fun n50 => (opEx fun h => (gNone rfl (fAppend (gs := h.1) [(n55, _), (n3, _), (n4, _), (n7, _), (n8, _), (n9, _)] [rowK l] AP27 rfl rfl .r h.2 rfl (rowsK_len [l]) (SlN.own 0 rfl rfl) (rowsK_one [l]) (by simp; omega) (by simp; omega)))))) ?_
            refine effStep 8 [] (by kernel_rfl) (closedEx fun n55 => (closedEx fun n50 => (closedEx fun h => (closedEx fun k => closedSt)))) (hLeft [] (by kernel_rfl) .n) ?_
            refine .c ?_ .n
            refine effOne rfl (opEx fun n55 => (opEx fun n50 => (opEx fun h => (opEx fun k => (gNone rfl (fStoreL 3 rfl rfl rfl rfl K27 rfl (rfl))))))) ?_
            refine effDone (closedEx fun n55 => (closedEx fun n50 => (closedEx fun h => (closedEx fun k => closedSt)))) (hLeft [] (by kernel_rfl) .n) (by kernel_rfl) ?_
            refine trEx fun n55 => ?_
            refine trEx fun n50 => ?_
            refine trEx fun h => ?_
            refine trEx fun k => ?_
            exact kMeetX (k.1) (by simpa using k.2) rfl .n (.c rfl (.c rfl (.c rfl (.c rfl (.c rfl (.c rfl (.c rfl (.c rfl (.c rfl .n))))))))) (.c 4 rfl (.c 4 rfl (.c 1 rfl (.c 1 rfl (.c 1 rfl (.d 0 .r))))))
        · have hlen : (([] ++ X.looks.map rowK) ++ [rowK l]).length = (moreW X l).looks.length := by simp [moreW]
          rw [hlen]
          refine kSeq ?_
          refine kRegion rfl ?_
          refine lV (yFieldAddr rfl F29_3) rfl rfl ?_
          refine lV (yFieldAddr rfl F24_0) rfl rfl ?_
          refine lV (yLoad1 rfl O3 (cOwn 2 rfl rfl)) rfl rfl ?_
          refine lV (yMove rfl) rfl rfl ?_
          refine lV (yConvInt rfl U5 U3 (conv_ok (by omega))) rfl rfl ?_
          refine lV (yRem rfl rfl (by omega) (by omega)) rfl rfl ?_
          refine lV (yAdd rfl rfl (by omega)) rfl rfl ?_
          refine lV (yMin rfl rfl) rfl rfl ?_
          refine lV (yFieldAddr rfl F29_3) rfl rfl ?_
          refine lV (yFieldAddr rfl F24_1) rfl rfl ?_
          refine lV (yLoad1 rfl O3 (cOwn 2 rfl rfl)) rfl rfl ?_
          refine lV (yMove rfl) rfl rfl ?_
          refine lV (yConvInt rfl U5 U3 (conv_ok (by omega))) rfl rfl ?_
          refine lV (yQuo rfl rfl (by omega) (by omega) (by omega)) rfl rfl ?_
          refine lV (yRem rfl rfl (by omega) (by omega)) rfl rfl ?_
          refine lV (ySub rfl rfl (by omega)) rfl rfl ?_
          refine lV (yMax rfl rfl) rfl rfl ?_
          refine lV (yCall rfl (.c rfl (.c rfl .n)) C35 (fun w hw => spanL_any _ _ w)) rfl rfl ?_
          refine lV (yFieldAddr rfl F29_3) rfl rfl ?_
          refine lE rfl ?_
          refine eStoreL 0 rfl rfl rfl rfl K24 rfl (rfl) ?_
          refine lNil ?_
          refine kThen ?_
          refine kSeq ?_
          refine kRegion rfl ?_
          refine lV (yFieldAddr rfl F29_0) rfl rfl ?_
          refine lV (yFieldAddr rfl F26_1) rfl rfl ?_
          refine lV (yFieldAddr rfl F24_1) rfl rfl ?_
          refine lV (yLoad1 rfl O3 (cOwn 2 rfl rfl)) rfl rfl ?_
          refine lV (yFieldAddr rfl F29_0) rfl rfl ?_
          refine lV (yFieldAddr rfl F26_1) rfl rfl ?_
          refine lV (yFieldAddr rfl F24_0) rfl rfl ?_
          refine lV (yLoad1 rfl O3 (cOwn 2 rfl rfl)) rfl rfl ?_
          refine lV (yMove rfl) rfl rfl ?_
          refine lV (yConvInt rfl U5 U3 (conv_ok (by omega))) rfl rfl ?_
          refine lV (yRem rfl rfl (by omega) (by omega)) rfl rfl ?_
          refine lV (yAdd rfl rfl (by omega)) rfl rfl ?_
          refine lV (yMin rfl rfl) rfl rfl ?_
          refine lV (yFieldAddr rfl F29_0) rfl rfl ?_
          refine lV (yFieldAddr rfl F26_1) rfl rfl ?_
          refine lV (yFieldAddr rfl F24_1) rfl rfl ?_
          refine lV (yLoad1 rfl O3 (cOwn 2 rfl rfl)) rfl rfl ?_
          refine lV (yCall rfl (.c rfl (.c rfl .n)) C35 (fun w hw => spanL_any _ _ w)) rfl rfl ?_
          refine lV (yFieldAddr rfl F29_0) rfl rfl ?_
          refine lV (yFieldAddr rfl F26_1) rfl rfl ?_
          refine lE rfl ?_
          refine eStoreL 1 rfl rfl rfl rfl K24 rfl (rfl) ?_
          refine lNil ?_
          refine kThen ?_
          refine kSeq ?_
          refine kRegion rfl ?_
          refine lV (yLoadA (vs := [_, _, _, _, _, _, _, _]) rfl A29 (cOwn 2 rfl rfl)) rfl rfl ?_
          refine lV (yCall rfl (.c rfl .n) C25 (fun w hw => drop_any y X w (hm.eff hw) hn)) rfl rfl ?_
          refine same (t := 99) (u := outI (((dropN X : Nat) : Int), 0)) rfl (by rw [dropE_N hM]) ?_
          refine lV (yMove rfl) rfl rfl ?_
          refine lV (yExtract rfl rfl) rfl rfl ?_
          refine lV (yExtract rfl rfl) rfl rfl ?_
          refine lV (yAssign rfl) rfl rfl ?_
          refine lV (yAssign rfl) rfl rfl ?_
          refine lNil ?_
          refine kThen ?_
          refine kSeq ?_
          refine kRegion rfl ?_
          refine lV (yLoadA (vs := [_, _, _, _, _, _, _, _]) rfl A29 (cOwn 2 rfl rfl)) rfl rfl ?_
          refine lV (yCall rfl (.c rfl (.c rfl .n)) C15 (fun w hw => habit_any y X 0 w (hm.eff hw) hn)) rfl rfl ?_
          refine lV (yMove rfl) rfl rfl ?_
          refine lV (yExtract rfl rfl) rfl rfl ?_
          refine lV (yExtract rfl rfl) rfl rfl ?_
          refine lE rfl ?_
          refine eAlloc Z24 fun n12 => ?_
          refine lE rfl ?_
          refine eStoreL 0 rfl rfl rfl rfl K24 rfl (rfl) ?_
          refine lV (yAssign rfl) rfl rfl ?_
          refine lNil ?_
          refine kThen ?_
          refine kSeq ?_
          refine kRegion rfl ?_
          refine lV (yAssign rfl) rfl rfl ?_
          refine lNil ?_
          refine kThen ?_
          refine kSeq ?_
          refine kSeq ?_
          refine kRegion rfl ?_
          refine lV (yLoadA (vs := [_, _, _, _, _, _, _, _]) rfl A29 (cOwn 5 rfl rfl)) rfl rfl ?_
          refine lV (yLoadA (vs := [_, _, _, _, _, _, _, _]) rfl A29 (cOwn 1 rfl rfl)) rfl rfl ?_
          refine lV (yLoadA (vs := [_, _, _, _, _, _, _, _]) rfl A29 (cOwn 2 rfl rfl)) rfl rfl ?_
          refine lE rfl ?_
          refine eBuildSlice (.c rfl (.c rfl (.c rfl .n))) (fun w => BS60_3_0_1_2 w) fun n110 => ?_
          refine lV (yLen rfl S60) rfl rfl ?_
          refine lV (yMove rfl) rfl rfl ?_
          refine lNil ?_
          refine kThen ?_
          refine kBlock ?_
          refine kLoopX (ι := Nat) (fun i => i ≤ 3) (fun i => [(112, i64 (i : Nat))]) [(0, _), (1, _), (2, _), (3, _), (4, _), (7, _), (8, _), (9, _), (58, _), (59, _), (60, _), (61, _), (62, _), (63, _), (64, _), (65, _), (66, _), (67, _), (68, _), (69, _), (70, _), (71, _), (72, _), (73, _), (74, _), (75, _), (76, _), (77, _), (78, _), (79, _), (80, _), (81, _), (82, _), (83, _), (84, _), (85, _), (86, _), (87, _), (88, _), (89, _), (90, _), (91, _), (92, _), (93, _), (94, _), (95, _), (96, _), (98, _), (99, _), (97, _), (100, _), (101, _), (10, _), (11, _), (103, _), (104, _), (102, _), (105, _), (106, _), (12, _), (13, _), (14, _), (107, _), (108, _), (109, _), (110, _), (111, _)] (fun i => []) (fun i => osL 47 g) [(n110, _), (n12, _), (n8, _), (n9, _), (n3, _), (n4, _), (n7, _)] (fun i => 3 - i) 0 (by omega) rfl (.c rfl .n) (.c rfl (.c rfl (.c rfl (.c rfl (.c rfl (.c rfl (.c rfl (.c rfl (.c rfl (.c rfl (.c rfl (.c rfl (.c rfl (.c rfl (.c rfl (.c rfl (.c rfl (.c rfl (.c rfl (.c rfl (.c rfl (.c rfl (.c rfl (.c rfl (.c rfl (.c rfl (.c rfl (.c rfl (.c rfl (.c rfl (.c rfl (.c rfl (.c rfl (.c rfl (.c rfl (.c rfl (.c rfl (.c rfl (.c rfl (.c rfl (.c rfl (.c rfl (.c rfl (.c rfl (.c rfl (.c rfl (.c rfl (.c rfl (.c rfl (.c rfl (.c rfl (.c rfl (.c rfl (.c rfl (.c rfl (.c rfl (.c rfl (.c rfl (.c rfl (.c rfl (.c rfl (.c rfl (.c rfl (.c rfl (.c rfl (.c rfl (.c rfl .n))))))))))))))))))))))))))))))))))))))))))))))))))))))))))))))))))) (.c 0 rfl (.c 0 rfl (.c 0 rfl (.c 0 rfl (.c 0 rfl (.c 0 rfl (.c 0 rfl .r))))))) ?_
          rintro i hi
          refine kSeq ?_
          refine kRegion rfl ?_
          refine lV (yLss rfl rfl) rfl rfl ?_
          refine lNil ?_
          refine kThen ?_
          refine kSeq ?_
          refine split (t := 113) rfl (fun h113 => ?_) (fun h113 => ?_)
          · refine kIfT rfl ?_
            refine kSkip ?_
            refine kThen ?_
            refine kSeq ?_
            refine kBlock ?_
            refine kSeq ?_
            obtain ⟨yz, z, hsub, hpk⟩ := pick_more (b := b) (show i < 3 by omega) hm hM hg
            have hzn := hpk.n.1
            have hnz : z.errs.length ≤ 1000000 := by have := hpk.n.2; omega
            refine kRegion rfl ?_
            refine lV (yIndexSl rfl rfl S60 (by omega) (by omega)) rfl rfl ?_
            refine lV (yLoadA (vs := (watC yz z)) rfl A29 (cOwn 0 rfl (hsub))) rfl rfl ?_
            refine lE rfl ?_
            refine eAlloc Z29 fun n16 => ?_
            refine lE rfl ?_
            refine eStoreL 0 rfl rfl rfl rfl K29 rfl (rfl) ?_
            refine lNil ?_
            refine kThen ?_
            refine kSeq ?_
            refine kSeq ?_
            refine kRegion rfl ?_
            refine lV (yLoadA (vs := [_, _, _, _, _, _, _, _]) rfl A29 (cOwn 0 rfl rfl)) rfl rfl ?_
            refine lV (yCall rfl (.c rfl .n) C34 (fun w hw => watch_any yz z w (hpk.i w (hw.sub (.d 0 (.d 0 (.d 0 (.d 0 (.d 0 (.d 0 (.d 0 (.d 0 .r)))))))))) (by omega) hnz)) rfl rfl ?_
            refine lV (yNot rfl) rfl rfl ?_
            refine lNil ?_
            refine kThen ?_
            refine splitB (t := 118) rfl (fun h118 => ?_) (fun h118 => ?_)
            · refine kIfT rfl ?_
              refine kExit ?_
              refine kThenX ?_
              refine kInX ?_
              refine kThen ?_
              refine kRegion rfl ?_
              refine lV (yAdd rfl rfl (by omega)) rfl rfl ?_
              refine lV (yMove rfl) rfl rfl ?_
              refine lNil ?_
              exact kRoundX (i + 1) (by omega) (by omega) rfl (.c rfl .n) (.c rfl (.c rfl (.c rfl (.c rfl (.c rfl (.c rfl (.c rfl (.c rfl (.c rfl (.c rfl (.c rfl (.c rfl (.c rfl (.c rfl (.c rfl (.c rfl (.c rfl (.c rfl (.c rfl (.c rfl (.c rfl (.c rfl (.c rfl (.c rfl (.c rfl (.c rfl (.c rfl (.c rfl (.c rfl (.c rfl (.c rfl (.c rfl (.c rfl (.c rfl (.c rfl (.c rfl (.c rfl (.c rfl (.c rfl (.c rfl (.c rfl (.c rfl (.c rfl (.c rfl (.c rfl (.c rfl (.c rfl (.c rfl (.c rfl (.c rfl (.c rfl (.c rfl (.c rfl (.c rfl (.c rfl (.c rfl (.c rfl (.c rfl (.c rfl (.c rfl (.c rfl (.c rfl (.c rfl (.c rfl (.c rfl (.c rfl (.c rfl .n))))))))))))))))))))))))))))))))))))))))))))))))))))))))))))))))))) (.c 1 rfl (.c 1 rfl (.c 1 rfl (.c 1 rfl (.c 1 rfl (.c 1 rfl (.c 1 rfl (.d 0 .r))))))))
            · refine kIfF rfl ?_
              refine kSkip ?_
              refine kThen ?_
              refine kSeq ?_
              have hZ := notF h118
              have hfin := hpk.f hZ
              have cz := set_facts hZ
              have dlz := cz.dle
              have hFz := allS_lt hZ
              have hdz := hfin.drop
              have hze := hfin.e
              refine kRegion rfl ?_
              refine lV (yLoadA (vs := [_, _, _, _, _, _, _, _]) rfl A29 (cOwn 0 rfl rfl)) rfl rfl ?_
              refine lV (yCall rfl (.c rfl .n) C25 (fun w hw => drop_any yz z w (hpk.i w (hw.sub (.d 0 (.d 0 (.d 0 (.d 0 (.d 0 (.d 0 (.d 0 (.d 0 .r)))))))))) (by omega))) rfl rfl ?_
              refine same (t := 121) (u := outI (((dropN z : Nat) : Int), 0)) rfl (by rw [dropE_N hZ]) ?_
              refine lV (yMove rfl) rfl rfl ?_
              refine lV (yExtract rfl rfl) rfl rfl ?_
              refine lV (yExtract rfl rfl) rfl rfl ?_
              refine lV (yAssign rfl) rfl rfl ?_
              refine lV (yAssign rfl) rfl rfl ?_
              refine lNil ?_
              refine kThen ?_
              refine kSeq ?_
              by_cases hoz : okW z
              · refine kRegion rfl ?_
                refine lV (yLoadA (vs := [_, _, _, _, _, _, _, _]) rfl A29 (cOwn 0 rfl rfl)) rfl rfl ?_
                refine lV (yCall rfl (.c rfl (.c rfl .n)) C15 (fun w hw => habit_any yz z 0 w (hpk.i w (hw.sub (.d 0 (.d 0 (.d 0 (.d 0 (.d 0 (.d 0 (.d 0 (.d 0 .r)))))))))) (by omega))) rfl rfl ?_
                refine same (t := 126) (u := outC (habP z 0, 0)) rfl (by rw [habitE_ok hZ hoz (a := 0) (by omega)]; rfl) ?_
                refine lV (yMove rfl) rfl rfl ?_
                refine lV (yExtract rfl rfl) rfl rfl ?_
                refine lV (yExtract rfl rfl) rfl rfl ?_
                refine lE rfl ?_
                refine eAlloc Z24 fun n19 => ?_
                refine lE rfl ?_
                refine eStoreL 0 rfl rfl rfl rfl K24 rfl (rfl) ?_
                refine lV (yAssign rfl) rfl rfl ?_
                refine lNil ?_
                refine kThen ?_
                refine kSeq ?_
                refine kSeq ?_
                refine kRegion rfl ?_
                refine lV (yMove rfl) rfl rfl ?_
                refine lV (yNeq rfl rfl) rfl rfl ?_
                refine knownN (t := 130) rfl (fun h => h rfl) ?_
                refine lV (yMove rfl) rfl rfl ?_
                refine lGY rfl rfl rfl (oV (yMove rfl) rfl ?_)
                refine lGY rfl rfl rfl (oV (yNeq rfl rfl) rfl ?_)
                refine knownN (t := 133) rfl (fun h => h rfl) ?_
                refine lV (yPickF rfl rfl) rfl rfl ?_
                refine lV (yMove rfl) rfl rfl ?_
                refine lGY rfl rfl rfl (oV (yMove rfl) rfl ?_)
                refine lGY rfl rfl rfl (oV (yCall rfl (.c rfl .n) C33 (fun w hw => rsize_any (dropN z) w (by omega))) rfl ?_)
                refine lGY rfl rfl rfl (oV (yMove rfl) rfl ?_)
                refine lGY rfl rfl rfl (oV (yCall rfl (.c rfl .n) C33 (fun w hw => rsize_any (dropN X) w (by omega))) rfl ?_)
                refine lGY rfl rfl rfl (oV (yLss rfl rfl) rfl ?_)
                refine knownN (t := 140) rfl (by omega) ?_
                refine lV (yPickF rfl rfl) rfl rfl ?_
                refine lV (yMove rfl) rfl rfl ?_
                refine lGY rfl rfl rfl (oV (yMove rfl) rfl ?_)
                refine lGY rfl rfl rfl (oV (yEql rfl rfl) rfl ?_)
                refine known (t := 144) rfl (rfl) ?_
                refine lGY rfl rfl rfl (oV (yMove rfl) rfl ?_)
                refine lGY rfl rfl rfl (oV (yMove rfl) rfl ?_)
                refine lGY rfl rfl rfl (oV (yNeq rfl rfl) rfl ?_)
                refine knownN (t := 147) rfl (fun h => h (by rw [habitE_ok hM (hfin.ok hoz) (a := 0) (by omega)])) ?_
                refine lGY rfl rfl rfl (oV (yPickT rfl rfl) rfl ?_)
                refine lV (yPickF rfl rfl) rfl rfl ?_
                refine lNil ?_
                refine kThen ?_
                refine kIfF rfl ?_
                refine kSkip ?_
                refine kThen ?_
                refine kSeq ?_
                refine kSeq ?_
                refine kRegion rfl ?_
                refine lV (yMove rfl) rfl rfl ?_
                refine lV (yNeq rfl rfl) rfl rfl ?_
                refine knownN (t := 151) rfl (fun h => h rfl) ?_
                refine lNil ?_
                refine kThen ?_
                refine kIfF rfl ?_
                refine kSkip ?_
                refine kThen ?_
                refine kSeq ?_
                have hom := hfin.ok hoz
                have hsx := sureN_lt X
                have hsz := sureN_lt z
                rw [hze] at hsz
                have hp4 : 2 ^ X.eyes.toNat ≤ 2 ^ 4 := Nat.pow_le_pow_right (by omega) (by omega)
                refine kRegion rfl ?_
                refine lV (yLoadA (vs := [_, _, _, _, _, _, _, _]) rfl A29 (cOwn 6 rfl rfl)) rfl rfl ?_
                refine lV (yCall rfl (.c rfl .n) C21 (fun w hw => sure_any y X w (hm.eff hw) hn)) rfl rfl ?_
                refine same (t := 154) (u := outI (((sureN X : Nat) : Int), 0)) rfl (by rw [sureE_ok hM hom]) ?_
                refine lV (yMove rfl) rfl rfl ?_
                refine lV (yExtract rfl rfl) rfl rfl ?_
                refine lV (yExtract rfl rfl) rfl rfl ?_
                refine lV (yAssign rfl) rfl rfl ?_
                refine lV (yAssign rfl) rfl rfl ?_
                refine lNil ?_
                refine kThen ?_
                refine kSeq ?_
                refine kRegion rfl ?_
                refine lV (yLoadA (vs := [_, _, _, _, _, _, _, _]) rfl A29 (cOwn 1 rfl rfl)) rfl rfl ?_
                refine lV (yCall rfl (.c rfl .n) C21 (fun w hw => sure_any yz z w (hpk.i w (hw.sub (.d 0 (.d 0 (.d 0 (.d 0 (.d 0 (.d 0 (.d 0 (.d 0 (.d 0 .r))))))))))) (by omega))) rfl rfl ?_
                refine same (t := 159) (u := outI (((sureN z : Nat) : Int), 0)) rfl (by rw [sureE_ok hZ hoz]) ?_
                refine lV (yMove rfl) rfl rfl ?_
                refine lV (yExtract rfl rfl) rfl rfl ?_
                refine lV (yExtract rfl rfl) rfl rfl ?_
                refine lV (yAssign rfl) rfl rfl ?_
                refine lV (yAssign rfl) rfl rfl ?_
                refine lNil ?_
                refine kThen ?_
                refine kSeq ?_
                refine kSeq ?_
                refine kRegion rfl ?_
                refine lV (yMove rfl) rfl rfl ?_
                refine lV (yNeq rfl rfl) rfl rfl ?_
                refine knownN (t := 163) rfl (fun h => h rfl) ?_
                refine lV (yMove rfl) rfl rfl ?_
                refine lGY rfl rfl rfl (oV (yMove rfl) rfl ?_)
                refine lGY rfl rfl rfl (oV (yNeq rfl rfl) rfl ?_)
                refine knownN (t := 166) rfl (fun h => h rfl) ?_
                refine lV (yPickF rfl rfl) rfl rfl ?_
                refine lV (yMove rfl) rfl rfl ?_
                refine lGY rfl rfl rfl (oV (yMove rfl) rfl ?_)
                refine lGY rfl rfl rfl (oV (yMove rfl) rfl ?_)
                refine lGY rfl rfl rfl (oV (yAndNot rfl rfl rfl (by omega) (by omega)) rfl ?_)
                refine lGY rfl rfl rfl (oV (yNeq rfl rfl) rfl ?_)
                refine knownN (t := 172) rfl (by rw [hfin.sure hoz]; decide) ?_
                refine lV (yPickF rfl rfl) rfl rfl ?_
                refine lNil ?_
                refine kThen ?_
                refine kIfF rfl ?_
                refine kSkip ?_
                refine kThen ?_
                refine kSeq ?_
                refine kSeq ?_
                refine kRegion rfl ?_
                refine lV (yFieldAddr rfl F29_2) rfl rfl ?_
                refine lV (yLoad1 rfl O3 (cOwn 6 rfl rfl)) rfl rfl ?_
                refine same (t := 175) (u := i64 ((X.eyes.toNat : Nat) : Int)) rfl (congrArg i64 (by omega)) ?_
                refine lV (yMove rfl) rfl rfl ?_
                refine lNil ?_
                refine kThen ?_
                refine kBlock ?_
                refine kLoopX (ι := Nat) (fun m => m ≤ X.eyes.toNat) (fun m => [(176, i64 (m : Nat))]) [(0, _), (1, _), (2, _), (3, _), (4, _), (7, _), (8, _), (9, _), (58, _), (59, _), (60, _), (61, _), (62, _), (63, _), (64, _), (65, _), (66, _), (67, _), (68, _), (69, _), (70, _), (71, _), (72, _), (73, _), (74, _), (75, _), (76, _), (77, _), (78, _), (79, _), (80, _), (81, _), (82, _), (83, _), (84, _), (85, _), (86, _), (87, _), (88, _), (89, _), (90, _), (91, _), (92, _), (93, _), (94, _), (95, _), (96, _), (98, _), (99, _), (97, _), (100, _), (101, _), (10, _), (11, _), (103, _), (104, _), (102, _), (105, _), (106, _), (12, _), (13, _), (14, _), (107, _), (108, _), (109, _), (110, _), (111, _), (112, _), (113, _), (114, _), (115, _), (16, _), (116, _), (117, _), (118, _), (120, _), (121, _), (119, _), (122, _), (123, _), (17, _), (18, _), (125, _), (126, _), (124, _), (127, _), (128, _), (19, _), (20, _), (129, _), (130, _), (131, _), (132, _), (133, _), (134, _), (135, _), (136, _), (137, _), (138, _), (139, _), (140, _), (141, _), (142, _), (143, _), (144, _), (145, _), (146, _), (147, _), (148, _), (149, _), (150, _), (151, _), (153, _), (154, _), (152, _), (155, _), (156, _), (21, _), (22, _), (158, _), (159, _), (157, _), (160, _), (161, _), (23, _), (24, _), (162, _), (163, _), (164, _), (165, _), (166, _), (167, _), (168, _), (169, _), (170, _), (171, _), (172, _), (173, _), (174, _), (175, _)] (fun m => []) (fun m => osL 47 g) [(n19, _), (n16, _), (n110, _), (n12, _), (n8, _), (n9, _), (n3, _), (n4, _), (n7, _)] (fun m => X.eyes.toNat - m) 0 (Nat.zero_le _) rfl (.c rfl .n) (.c rfl (.c rfl (.c rfl (.c rfl (.c rfl (.c rfl (.c rfl (.c rfl (.c rfl (.c rfl (.c rfl (.c rfl (.c rfl (.c rfl (.c rfl (.c rfl (.c rfl (.c rfl (.c rfl (.c rfl (.c rfl (.c rfl (.c rfl (.c rfl (.c rfl (.c rfl (.c rfl (.c rfl (.c rfl (.c rfl (.c rfl (.c rfl (.c rfl (.c rfl (.c rfl (.c rfl (.c rfl (.c rfl (.c rfl (.c rfl (.c rfl (.c rfl (.c rfl (.c rfl (.c rfl (.c rfl (.c rfl (.c rfl (.c rfl (.c rfl (.c rfl (.c rfl (.c rfl (.c rfl (.c rfl (.c rfl (.c rfl (.c rfl (.c rfl (.c rfl (.c rfl (.c rfl (.c rfl (.c rfl (.c rfl (.c rfl (.c rfl (.c rfl (.c rfl (.c rfl (.c rfl (.c rfl (.c rfl (.c rfl (.c rfl (.c rfl (.c rfl (.c rfl (.c rfl (.c rfl (.c rfl (.c rfl (.c rfl (.c rfl (.c rfl (.c rfl (.c rfl (.c rfl (.c rfl (.c rfl (.c rfl (.c rfl (.c rfl (.c rfl (.c rfl (.c rfl (.c rfl (.c rfl (.c rfl (.c rfl (.c rfl (.c rfl (.c rfl (.c rfl (.c rfl (.c rfl (.c rfl (.c rfl (.c rfl (.c rfl (.c rfl (.c rfl (.c rfl (.c rfl (.c rfl (.c rfl (.c rfl (.c rfl (.c rfl (.c rfl (.c rfl (.c rfl (.c rfl (.c rfl (.c rfl (.c rfl (.c rfl (.c rfl (.c rfl (.c rfl (.c rfl (.c rfl (.c rfl (.c rfl (.c rfl (.c rfl (.c rfl (.c rfl (.c rfl (.c rfl .n)))))))))))))))))))))))))))))))))))))))))))))))))))))))))))))))))))))))))))))))))))))))))))))))))))))))))))))))))))))))))))))))))))))))))))) (.c 0 rfl (.c 0 rfl (.c 0 rfl (.c 0 rfl (.c 0 rfl (.c 0 rfl (.c 0 rfl (.c 0 rfl (.c 0 rfl .r))))))))) ?_
                rintro m hml
                refine kSeq ?_
                refine kRegion rfl ?_
                refine lV (yLss rfl rfl) rfl rfl ?_
                refine lNil ?_
                refine kThen ?_
                refine kSeq ?_
                refine split (t := 177) rfl (fun h177 => ?_) (fun h177 => ?_)
                · refine kIfT rfl ?_
                  refine kSkip ?_
                  refine kThen ?_
                  refine kSeq ?_
                  refine kBlock ?_
                  refine kSeq ?_
                  refine kRegion rfl ?_
                  refine lV (yMove rfl) rfl rfl ?_
                  refine lV (yAssign rfl) rfl rfl ?_
                  refine lNil ?_
                  refine kThen ?_
                  refine kSeq ?_
                  have hmr : 0 ≤ ((m : Nat) : Int) ∧ ((m : Nat) : Int) ≤ X.eyes - 1 := by omega
                  have hzr : 0 ≤ ((m : Nat) : Int) ∧ ((m : Nat) : Int) ≤ z.eyes - 1 := by rw [hze]; exact hmr
                  have h0r : 0 ≤ (0 : Int) ∧ (0 : Int) ≤ X.eyes - 1 := by omega
                  have h0z : 0 ≤ (0 : Int) ∧ (0 : Int) ≤ z.eyes - 1 := by rw [hze]; exact h0r
                  have fh := hfin.hab hoz (m := m) (by omega)
                  have fb := hfin.bet hoz (m := 0) (k := m) (by omega) (by omega)
                  refine kRegion rfl ?_
                  refine lV (yLoadA (vs := [_, _, _, _, _, _, _, _]) rfl A29 (cOwn 6 rfl rfl)) rfl rfl ?_
                  refine lV (yMove rfl) rfl rfl ?_
                  refine lV (yCall rfl (.c rfl (.c rfl .n)) C15 (fun w hw => habit_any y X (m : Nat) w (hm.eff hw) hn)) rfl rfl ?_
                  refine same (t := 182) (u := outC (habP X m, 0)) rfl (by rw [habitE_ok hM hom hmr]; rfl) ?_
                  refine lV (yMove rfl) rfl rfl ?_
                  refine lV (yExtract rfl rfl) rfl rfl ?_
                  refine lV (yExtract rfl rfl) rfl rfl ?_
                  refine lE rfl ?_
                  refine eAlloc Z24 fun n26 => ?_
                  refine lE rfl ?_
                  refine eStoreL 0 rfl rfl rfl rfl K24 rfl (rfl) ?_
                  refine lV (yAssign rfl) rfl rfl ?_
                  refine lNil ?_
                  refine kThen ?_
                  refine kSeq ?_
                  refine kRegion rfl ?_
                  refine lV (yLoadA (vs := [_, _, _, _, _, _, _, _]) rfl A29 (cOwn 2 rfl rfl)) rfl rfl ?_
                  refine lV (yMove rfl) rfl rfl ?_
                  refine lV (yCall rfl (.c rfl (.c rfl .n)) C15 (fun w hw => habit_any yz z (m : Nat) w (hpk.i w (hw.sub (.d 0 (.d 0 (.d 0 (.d 0 (.d 0 (.d 0 (.d 0 (.d 0 (.d 0 (.d 0 .r)))))))))))) (by omega))) rfl rfl ?_
                  refine same (t := 188) (u := outC (habP z m, 0)) rfl (by rw [habitE_ok hZ hoz hzr]; rfl) ?_
                  refine lV (yMove rfl) rfl rfl ?_
                  refine lV (yExtract rfl rfl) rfl rfl ?_
                  refine lV (yExtract rfl rfl) rfl rfl ?_
                  refine lE rfl ?_
                  refine eAlloc Z24 fun n28 => ?_
                  refine lE rfl ?_
                  refine eStoreL 0 rfl rfl rfl rfl K24 rfl (rfl) ?_
                  refine lV (yAssign rfl) rfl rfl ?_
                  refine lNil ?_
                  refine kThen ?_
                  refine kSeq ?_
                  refine kRegion rfl ?_
                  refine lV (yLoadA (vs := [_, _, _, _, _, _, _, _]) rfl A29 (cOwn 8 rfl rfl)) rfl rfl ?_
                  refine lV (yMove rfl) rfl rfl ?_
                  refine lV (yCall rfl (.c rfl (.c rfl (.c rfl .n))) C17 (fun w hw => between_any y X 0 (m : Nat) w (hm.eff hw) hn)) rfl rfl ?_
                  refine same (t := 194) (u := outC (betP X 0 m, 0)) rfl (by rw [betwE_ok hM hom h0r hmr]; rfl) ?_
                  refine lV (yMove rfl) rfl rfl ?_
                  refine lV (yExtract rfl rfl) rfl rfl ?_
                  refine lV (yExtract rfl rfl) rfl rfl ?_
                  refine lE rfl ?_
                  refine eAlloc Z24 fun n30 => ?_
                  refine lE rfl ?_
                  refine eStoreL 0 rfl rfl rfl rfl K24 rfl (rfl) ?_
                  refine lV (yAssign rfl) rfl rfl ?_
                  refine lNil ?_
                  refine kThen ?_
                  refine kSeq ?_
                  refine kRegion rfl ?_
                  refine lV (yLoadA (vs := [_, _, _, _, _, _, _, _]) rfl A29 (cOwn 4 rfl rfl)) rfl rfl ?_
                  refine lV (yMove rfl) rfl rfl ?_
                  refine lV (yCall rfl (.c rfl (.c rfl (.c rfl .n))) C17 (fun w hw => between_any yz z 0 (m : Nat) w (hpk.i w (hw.sub (.d 0 (.d 0 (.d 0 (.d 0 (.d 0 (.d 0 (.d 0 (.d 0 (.d 0 (.d 0 (.d 0 (.d 0 .r)))))))))))))) (by omega))) rfl rfl ?_
                  refine same (t := 200) (u := outC (betP z 0 m, 0)) rfl (by rw [betwE_ok hZ hoz h0z hzr]; rfl) ?_
                  refine lV (yMove rfl) rfl rfl ?_
                  refine lV (yExtract rfl rfl) rfl rfl ?_
                  refine lV (yExtract rfl rfl) rfl rfl ?_
                  refine lE rfl ?_
                  refine eAlloc Z24 fun n32 => ?_
                  refine lE rfl ?_
                  refine eStoreL 0 rfl rfl rfl rfl K24 rfl (rfl) ?_
                  refine lV (yAssign rfl) rfl rfl ?_
                  refine lNil ?_
                  refine kThen ?_
                  refine kSeq ?_
                  refine kRegion rfl ?_
                  refine lV (yMove rfl) rfl rfl ?_
                  refine lV (yLoadA (vs := [_, _]) rfl A24 (cOwn 2 rfl rfl)) rfl rfl ?_
                  refine lV (yLoadA (vs := [_, _]) rfl A24 (cOwn 3 rfl rfl)) rfl rfl ?_
                  refine lV (yCall rfl (.c rfl (.c rfl .n)) C38 (fun w hw => inL_any (habP z m) (habP X m) w)) rfl rfl ?_
                  refine knownB (t := 206) (c := true) rfl (decide_eq_true fh) ?_
                  refine lV (yNot rfl) rfl rfl ?_
                  refine lV (yMove rfl) rfl rfl ?_
                  refine lGY rfl rfl rfl (oV (yMove rfl) rfl ?_)
                  refine lGY rfl rfl rfl (oV (yLoadA (vs := [_, _]) rfl A24 (cOwn 0 rfl rfl)) rfl ?_)
                  refine lGY rfl rfl rfl (oV (yLoadA (vs := [_, _]) rfl A24 (cOwn 1 rfl rfl)) rfl ?_)
                  refine lGY rfl rfl rfl (oV (yCall rfl (.c rfl (.c rfl .n)) C38 (fun w hw => inL_any (betP z 0 m) (betP X 0 m) w)) rfl ?_)
                  refine knownB (t := 212) (c := true) rfl (decide_eq_true fb) ?_
                  refine lGY rfl rfl rfl (oV (yNot rfl) rfl ?_)
                  refine lV (yPickF rfl rfl) rfl rfl ?_
                  refine lNil ?_
                  refine kThen ?_
                  refine kIfF rfl ?_
                  refine kSkip ?_
                  refine kInN ?_
                  refine kThen ?_
                  refine kRegion rfl ?_
                  refine lV (yAdd rfl rfl (by omega)) rfl rfl ?_
                  refine lV (yMove rfl) rfl rfl ?_
                  refine lNil ?_
                  exact kRoundX (m + 1) (by omega) (by omega) rfl (.c rfl .n) (.c rfl (.c rfl (.c rfl (.c rfl (.c rfl (.c rfl (.c rfl (.c rfl (.c rfl (.c rfl (.c rfl (.c rfl (.c rfl (.c rfl (.c rfl (.c rfl (.c rfl (.c rfl (.c rfl (.c rfl (.c rfl (.c rfl (.c rfl (.c rfl (.c rfl (.c rfl (.c rfl (.c rfl (.c rfl (.c rfl (.c rfl (.c rfl (.c rfl (.c rfl (.c rfl (.c rfl (.c rfl (.c rfl (.c rfl (.c rfl (.c rfl (.c rfl (.c rfl (.c rfl (.c rfl (.c rfl (.c rfl (.c rfl (.c rfl (.c rfl (.c rfl (.c rfl (.c rfl (.c rfl (.c rfl (.c rfl (.c rfl (.c rfl (.c rfl (.c rfl (.c rfl (.c rfl (.c rfl (.c rfl (.c rfl (.c rfl (.c rfl (.c rfl (.c rfl (.c rfl (.c rfl (.c rfl (.c rfl (.c rfl (.c rfl (.c rfl (.c rfl (.c rfl (.c rfl (.c rfl (.c rfl (.c rfl (.c rfl (.c rfl (.c rfl (.c rfl (.c rfl (.c rfl (.c rfl (.c rfl (.c rfl (.c rfl (.c rfl (.c rfl (.c rfl (.c rfl (.c rfl (.c rfl (.c rfl (.c rfl (.c rfl (.c rfl (.c rfl (.c rfl (.c rfl (.c rfl (.c rfl (.c rfl (.c rfl (.c rfl (.c rfl (.c rfl (.c rfl (.c rfl (.c rfl (.c rfl (.c rfl (.c rfl (.c rfl (.c rfl (.c rfl (.c rfl (.c rfl (.c rfl (.c rfl (.c rfl (.c rfl (.c rfl (.c rfl (.c rfl (.c rfl (.c rfl (.c rfl (.c rfl (.c rfl (.c rfl (.c rfl (.c rfl (.c rfl (.c rfl .n)))))))))))))))))))))))))))))))))))))))))))))))))))))))))))))))))))))))))))))))))))))))))))))))))))))))))))))))))))))))))))))))))))))))))))) (.c 4 rfl (.c 4 rfl (.c 4 rfl (.c 4 rfl (.c 4 rfl (.c 4 rfl (.c 4 rfl (.c 4 rfl (.c 4 rfl (.d 0 (.d 0 (.d 0 (.d 0 .r)))))))))))))
                · refine kIfF rfl ?_
                  refine kExit ?_
                  refine kThenX ?_
                  refine kThenX ?_
                  refine kInX ?_
                  refine kThen ?_
                  refine kSeq ?_
                  refine kRegion rfl ?_
                  refine lV (yFieldAddr rfl F29_1) rfl rfl ?_
                  refine lV (yLoad1 rfl O3 (cOwn 6 rfl rfl)) rfl rfl ?_
                  refine same (t := 217) (u := i64 ((X.images.toNat : Nat) : Int)) rfl (congrArg i64 (by omega)) ?_
                  refine lV (yMove rfl) rfl rfl ?_
                  refine lNil ?_
                  refine kThen ?_
                  refine kBlock ?_
                  refine kLoopX (ι := Nat) (fun m => m ≤ X.images.toNat) (fun m => [(218, i64 (m : Nat))]) [(0, _), (1, _), (2, _), (3, _), (4, _), (7, _), (8, _), (9, _), (58, _), (59, _), (60, _), (61, _), (62, _), (63, _), (64, _), (65, _), (66, _), (67, _), (68, _), (69, _), (70, _), (71, _), (72, _), (73, _), (74, _), (75, _), (76, _), (77, _), (78, _), (79, _), (80, _), (81, _), (82, _), (83, _), (84, _), (85, _), (86, _), (87, _), (88, _), (89, _), (90, _), (91, _), (92, _), (93, _), (94, _), (95, _), (96, _), (98, _), (99, _), (97, _), (100, _), (101, _), (10, _), (11, _), (103, _), (104, _), (102, _), (105, _), (106, _), (12, _), (13, _), (14, _), (107, _), (108, _), (109, _), (110, _), (111, _), (112, _), (113, _), (114, _), (115, _), (16, _), (116, _), (117, _), (118, _), (120, _), (121, _), (119, _), (122, _), (123, _), (17, _), (18, _), (125, _), (126, _), (124, _), (127, _), (128, _), (19, _), (20, _), (129, _), (130, _), (131, _), (132, _), (133, _), (134, _), (135, _), (136, _), (137, _), (138, _), (139, _), (140, _), (141, _), (142, _), (143, _), (144, _), (145, _), (146, _), (147, _), (148, _), (149, _), (150, _), (151, _), (153, _), (154, _), (152, _), (155, _), (156, _), (21, _), (22, _), (158, _), (159, _), (157, _), (160, _), (161, _), (23, _), (24, _), (162, _), (163, _), (164, _), (165, _), (166, _), (167, _), (168, _), (169, _), (170, _), (171, _), (172, _), (173, _), (174, _), (175, _), (176, _), (177, _), (216, _), (217, _)] (fun m => []) (fun m => osL 47 g) [(n19, _), (n16, _), (n110, _), (n12, _), (n8, _), (n9, _), (n3, _), (n4, _), (n7, _)] (fun m => X.images.toNat - m) 0 (Nat.zero_le _) rfl (.c rfl .n) (.c rfl (.c rfl (.c rfl (.c rfl (.c rfl (.c rfl (.c rfl (.c rfl (.c rfl (.c rfl (.c rfl (.c rfl (.c rfl (.c rfl (.c rfl (.c rfl (.c rfl (.c rfl (.c rfl (.c rfl (.c rfl (.c rfl (.c rfl (.c rfl (.c rfl (.c rfl (.c rfl (.c rfl (.c rfl (.c rfl (.c rfl (.c rfl (.c rfl (.c rfl (.c rfl (.c rfl (.c rfl (.c rfl (.c rfl (.c rfl (.c rfl (.c rfl (.c rfl (.c rfl (.c rfl (.c rfl (.c rfl (.c rfl (.c rfl (.c rfl (.c rfl (.c rfl (.c rfl (.c rfl (.c rfl (.c rfl (.c rfl (.c rfl (.c rfl (.c rfl (.c rfl (.c rfl (.c rfl (.c rfl (.c rfl (.c rfl (.c rfl (.c rfl (.c rfl (.c rfl (.c rfl (.c rfl (.c rfl (.c rfl (.c rfl (.c rfl (.c rfl (.c rfl (.c rfl (.c rfl (.c rfl (.c rfl (.c rfl (.c rfl (.c rfl (.c rfl (.c rfl (.c rfl (.c rfl (.c rfl (.c rfl (.c rfl (.c rfl (.c rfl (.c rfl (.c rfl (.c rfl (.c rfl (.c rfl (.c rfl (.c rfl (.c rfl (.c rfl (.c rfl (.c rfl (.c rfl (.c rfl (.c rfl (.c rfl (.c rfl (.c rfl (.c rfl (.c rfl (.c rfl (.c rfl (.c rfl (.c rfl (.c rfl (.c rfl (.c rfl (.c rfl (.c rfl (.c rfl (.c rfl (.c rfl (.c rfl (.c rfl (.c rfl (.c rfl (.c rfl (.c rfl (.c rfl (.c rfl (.c rfl (.c rfl (.c rfl (.c rfl (.c rfl (.c rfl (.c rfl (.c rfl (.c rfl (.c rfl (.c rfl .n)))))))))))))))))))))))))))))))))))))))))))))))))))))))))))))))))))))))))))))))))))))))))))))))))))))))))))))))))))))))))))))))))))))))))))))))) (.c 0 rfl (.c 0 rfl (.c 0 rfl (.c 0 rfl (.c 0 rfl (.c 0 rfl (.c 0 rfl (.c 0 rfl (.c 0 rfl .r))))))))) ?_
                  rintro m hml
                  refine kSeq ?_
                  refine kRegion rfl ?_
                  refine lV (yLss rfl rfl) rfl rfl ?_
                  refine lNil ?_
                  refine kThen ?_
                  refine kSeq ?_
                  refine split (t := 219) rfl (fun h219 => ?_) (fun h219 => ?_)
                  · refine kIfT rfl ?_
                    refine kSkip ?_
                    refine kThen ?_
                    refine kSeq ?_
                    refine kBlock ?_
                    refine kSeq ?_
                    by_cases hsn : seenI X m
                    · refine kRegion rfl ?_
                      refine lV (yMove rfl) rfl rfl ?_
                      refine lV (yAssign rfl) rfl rfl ?_
                      refine lNil ?_
                      refine kThen ?_
                      refine kSeq ?_
                      have hmr : 0 ≤ ((m : Nat) : Int) ∧ ((m : Nat) : Int) ≤ X.images - 1 := by omega
                      have hzr : 0 ≤ ((m : Nat) : Int) ∧ ((m : Nat) : Int) ≤ z.images - 1 := by rw [hfin.i]; exact hmr
                      refine kRegion rfl ?_
                      refine lV (yLoadA (vs := [_, _, _, _, _, _, _, _]) rfl A29 (cOwn 6 rfl rfl)) rfl rfl ?_
                      refine lV (yMove rfl) rfl rfl ?_
                      refine lV (yCall rfl (.c rfl (.c rfl .n)) C19 (fun w hw => place_any y X (m : Nat) w (hm.eff hw) hn)) rfl rfl ?_
                      refine same (t := 224) (u := outC (plaP X m, 0)) rfl (by rw [placeE_ok hM hom hmr hsn]; rfl) ?_
                      refine lV (yMove rfl) rfl rfl ?_
                      refine lV (yExtract rfl rfl) rfl rfl ?_
                      refine lV (yExtract rfl rfl) rfl rfl ?_
                      refine lE rfl ?_
                      refine eAlloc Z24 fun n35 => ?_
                      refine lE rfl ?_
                      refine eStoreL 0 rfl rfl rfl rfl K24 rfl (rfl) ?_
                      refine lV (yAssign rfl) rfl rfl ?_
                      refine lNil ?_
                      refine kThen ?_
                      refine kSeq ?_
                      refine kRegion rfl ?_
                      refine lV (yLoadA (vs := [_, _, _, _, _, _, _, _]) rfl A29 (cOwn 2 rfl rfl)) rfl rfl ?_
                      refine lV (yMove rfl) rfl rfl ?_
                      refine lV (yCall rfl (.c rfl (.c rfl .n)) C19 (fun w hw => place_any yz z (m : Nat) w (hpk.i w (hw.sub (.d 0 (.d 0 (.d 0 (.d 0 (.d 0 (.d 0 (.d 0 (.d 0 (.d 0 (.d 0 .r)))))))))))) (by omega))) rfl rfl ?_
                      refine same (t := 230) (u := outC (plaP z m, 0)) rfl (by rw [placeE_ok hZ hoz hzr (hfin.seen hsn)]; rfl) ?_
                      refine lV (yMove rfl) rfl rfl ?_
                      refine lV (yExtract rfl rfl) rfl rfl ?_
                      refine lV (yExtract rfl rfl) rfl rfl ?_
                      refine lE rfl ?_
                      refine eAlloc Z24 fun n37 => ?_
                      refine lE rfl ?_
                      refine eStoreL 0 rfl rfl rfl rfl K24 rfl (rfl) ?_
                      refine lV (yAssign rfl) rfl rfl ?_
                      refine lNil ?_
                      refine kThen ?_
                      refine kSeq ?_
                      refine kRegion rfl ?_
                      refine lV (yMove rfl) rfl rfl ?_
                      refine lV (yEql rfl rfl) rfl rfl ?_
                      refine known (t := 234) rfl (rfl) ?_
                      refine lV (yMove rfl) rfl rfl ?_
                      refine lGY rfl rfl rfl (oV (yMove rfl) rfl ?_)
                      refine lGY rfl rfl rfl (oV (yNeq rfl rfl) rfl ?_)
                      refine knownN (t := 237) rfl (fun h => h rfl) ?_
                      refine lGY rfl rfl rfl (oV (yMove rfl) rfl ?_)
                      refine lGY rfl rfl rfl (oV (yMove rfl) rfl ?_)
                      refine lGY rfl rfl rfl (oV (yLoadA (vs := [_, _]) rfl A24 (cOwn 0 rfl rfl)) rfl ?_)
                      refine lGY rfl rfl rfl (oV (yLoadA (vs := [_, _]) rfl A24 (cOwn 1 rfl rfl)) rfl ?_)
                      refine lGY rfl rfl rfl (oV (yCall rfl (.c rfl (.c rfl .n)) C38 (fun w hw => inL_any (plaP z m) (plaP X m) w)) rfl ?_)
                      refine knownB (t := 242) (c := true) rfl (decide_eq_true (hfin.pla hoz hsn)) ?_
                      refine lGY rfl rfl rfl (oV (yNot rfl) rfl ?_)
                      refine lGY rfl rfl rfl (oV (yPickF rfl rfl) rfl ?_)
                      refine lV (yPickT rfl rfl) rfl rfl ?_
                      refine lNil ?_
                      refine kThen ?_
                      refine kIfF rfl ?_
                      refine kSkip ?_
                      refine kInN ?_
                      refine kThen ?_
                      refine kRegion rfl ?_
                      refine lV (yAdd rfl rfl (by omega)) rfl rfl ?_
                      refine lV (yMove rfl) rfl rfl ?_
                      refine lNil ?_
                      exact kRoundX (m + 1) (by omega) (by omega) rfl (.c rfl .n) (.c rfl (.c rfl (.c rfl (.c rfl (.c rfl (.c rfl (.c rfl (.c rfl (.c rfl (.c rfl (.c rfl (.c rfl (.c rfl (.c rfl (.c rfl (.c rfl (.c rfl (.c rfl (.c rfl (.c rfl (.c rfl (.c rfl (.c rfl (.c rfl (.c rfl (.c rfl (.c rfl (.c rfl (.c rfl (.c rfl (.c rfl (.c rfl (.c rfl (.c rfl (.c rfl (.c rfl (.c rfl (.c rfl (.c rfl (.c rfl (.c rfl (.c rfl (.c rfl (.c rfl (.c rfl (.c rfl (.c rfl (.c rfl (.c rfl (.c rfl (.c rfl (.c rfl (.c rfl (.c rfl (.c rfl (.c rfl (.c rfl (.c rfl (.c rfl (.c rfl (.c rfl (.c rfl (.c rfl (.c rfl (.c rfl (.c rfl (.c rfl (.c rfl (.c rfl (.c rfl (.c rfl (.c rfl (.c rfl (.c rfl (.c rfl (.c rfl (.c rfl (.c rfl (.c rfl (.c rfl (.c rfl (.c rfl (.c rfl (.c rfl (.c rfl (.c rfl (.c rfl (.c rfl (.c rfl (.c rfl (.c rfl (.c rfl (.c rfl (.c rfl (.c rfl (.c rfl (.c rfl (.c rfl (.c rfl (.c rfl (.c rfl (.c rfl (.c rfl (.c rfl (.c rfl (.c rfl (.c rfl (.c rfl (.c rfl (.c rfl (.c rfl (.c rfl (.c rfl (.c rfl (.c rfl (.c rfl (.c rfl (.c rfl (.c rfl (.c rfl (.c rfl (.c rfl (.c rfl (.c rfl (.c rfl (.c rfl (.c rfl (.c rfl (.c rfl (.c rfl (.c rfl (.c rfl (.c rfl (.c rfl (.c rfl (.c rfl (.c rfl (.c rfl (.c rfl (.c rfl (.c rfl (.c rfl (.c rfl (.c rfl .n)))))))))))))))))))))))))))))))))))))))))))))))))))))))))))))))))))))))))))))))))))))))))))))))))))))))))))))))))))))))))))))))))))))))))))))))) (.c 2 rfl (.c 2 rfl (.c 2 rfl (.c 2 rfl (.c 2 rfl (.c 2 rfl (.c 2 rfl (.c 2 rfl (.c 2 rfl (.d 0 (.d 0 .r)))))))))))
                    · refine kRegion rfl ?_
                      refine lV (yMove rfl) rfl rfl ?_
                      refine lV (yAssign rfl) rfl rfl ?_
                      refine lNil ?_
                      refine kThen ?_
                      refine kSeq ?_
                      have hmr : 0 ≤ ((m : Nat) : Int) ∧ ((m : Nat) : Int) ≤ X.images - 1 := by omega
                      have hzr : 0 ≤ ((m : Nat) : Int) ∧ ((m : Nat) : Int) ≤ z.images - 1 := by rw [hfin.i]; exact hmr
                      refine kRegion rfl ?_
                      refine lV (yLoadA (vs := [_, _, _, _, _, _, _, _]) rfl A29 (cOwn 6 rfl rfl)) rfl rfl ?_
                      refine lV (yMove rfl) rfl rfl ?_
                      refine lV (yCall rfl (.c rfl (.c rfl .n)) C19 (fun w hw => place_any y X (m : Nat) w (hm.eff hw) hn)) rfl rfl ?_
                      refine same (t := 224) (u := outC ((0, 0), 12)) rfl (by rw [placeE_doubt hM hom hmr hsn]) ?_
                      refine lV (yMove rfl) rfl rfl ?_
                      refine lV (yExtract rfl rfl) rfl rfl ?_
                      refine lV (yExtract rfl rfl) rfl rfl ?_
                      refine lE rfl ?_
                      refine eAlloc Z24 fun n35 => ?_
                      refine lE rfl ?_
                      refine eStoreL 0 rfl rfl rfl rfl K24 rfl (rfl) ?_
                      refine lV (yAssign rfl) rfl rfl ?_
                      refine lNil ?_
                      refine kThen ?_
                      refine kSeq ?_
                      refine kRegion rfl ?_
                      refine lV (yLoadA (vs := [_, _, _, _, _, _, _, _]) rfl A29 (cOwn 2 rfl rfl)) rfl rfl ?_
                      refine lV (yMove rfl) rfl rfl ?_
                      refine lV (yCall rfl (.c rfl (.c rfl .n)) C19 (fun w hw => place_any yz z (m : Nat) w (hpk.i w (hw.sub (.d 0 (.d 0 (.d 0 (.d 0 (.d 0 (.d 0 (.d 0 (.d 0 (.d 0 (.d 0 .r)))))))))))) (by omega))) rfl rfl ?_
                      refine lV (yMove rfl) rfl rfl ?_
                      refine lV (yExtract rfl rfl) rfl rfl ?_
                      refine lV (yExtract rfl rfl) rfl rfl ?_
                      refine lE rfl ?_
                      refine eAlloc Z24 fun n37 => ?_
                      refine lE rfl ?_
                      refine eStoreL 0 rfl rfl rfl rfl K24 rfl (rfl) ?_
                      refine lV (yAssign rfl) rfl rfl ?_
                      refine lNil ?_
                      refine kThen ?_
                      refine kSeq ?_
                      refine kRegion rfl ?_
                      refine lV (yMove rfl) rfl rfl ?_
                      refine lV (yEql rfl rfl) rfl rfl ?_
                      refine knownN (t := 234) rfl (by decide) ?_
                      refine lV (yMove rfl) rfl rfl ?_
                      refine lGN rfl rfl rfl rfl rfl ?_
                      refine lGN rfl rfl rfl rfl rfl ?_
                      refine lGN rfl rfl rfl rfl rfl ?_
                      refine lGU rfl rfl rfl rfl ?_
                      refine lGU rfl rfl rfl rfl ?_
                      refine lGU rfl rfl rfl rfl ?_
                      refine lGU rfl rfl rfl rfl ?_
                      refine lGU rfl rfl rfl rfl ?_
                      refine lGN rfl rfl rfl rfl rfl ?_
                      refine lV (yPickF rfl rfl) rfl rfl ?_
                      refine lNil ?_
                      refine kThen ?_
                      refine kIfF rfl ?_
                      refine kSkip ?_
                      refine kInN ?_
                      refine kThen ?_
                      refine kRegion rfl ?_
                      refine lV (yAdd rfl rfl (by omega)) rfl rfl ?_
                      refine lV (yMove rfl) rfl rfl ?_
                      refine lNil ?_
                      exact kRoundX (m + 1) (by omega) (by omega) rfl (.c rfl .n) (.c rfl (.c rfl (.c rfl (.c rfl (.c rfl (.c rfl (.c rfl (.c rfl (.c rfl (.c rfl (.c rfl (.c rfl (.c rfl (.c rfl (.c rfl (.c rfl (.c rfl (.c rfl (.c rfl (.c rfl (.c rfl (.c rfl (.c rfl (.c rfl (.c rfl (.c rfl (.c rfl (.c rfl (.c rfl (.c rfl (.c rfl (.c rfl (.c rfl (.c rfl (.c rfl (.c rfl (.c rfl (.c rfl (.c rfl (.c rfl (.c rfl (.c rfl (.c rfl (.c rfl (.c rfl (.c rfl (.c rfl (.c rfl (.c rfl (.c rfl (.c rfl (.c rfl (.c rfl (.c rfl (.c rfl (.c rfl (.c rfl (.c rfl (.c rfl (.c rfl (.c rfl (.c rfl (.c rfl (.c rfl (.c rfl (.c rfl (.c rfl (.c rfl (.c rfl (.c rfl (.c rfl (.c rfl (.c rfl (.c rfl (.c rfl (.c rfl (.c rfl (.c rfl (.c rfl (.c rfl (.c rfl (.c rfl (.c rfl (.c rfl (.c rfl (.c rfl (.c rfl (.c rfl (.c rfl (.c rfl (.c rfl (.c rfl (.c rfl (.c rfl (.c rfl (.c rfl (.c rfl (.c rfl (.c rfl (.c rfl (.c rfl (.c rfl (.c rfl (.c rfl (.c rfl (.c rfl (.c rfl (.c rfl (.c rfl (.c rfl (.c rfl (.c rfl (.c rfl (.c rfl (.c rfl (.c rfl (.c rfl (.c rfl (.c rfl (.c rfl (.c rfl (.c rfl (.c rfl (.c rfl (.c rfl (.c rfl (.c rfl (.c rfl (.c rfl (.c rfl (.c rfl (.c rfl (.c rfl (.c rfl (.c rfl (.c rfl (.c rfl (.c rfl (.c rfl (.c rfl (.c rfl (.c rfl (.c rfl (.c rfl .n)))))))))))))))))))))))))))))))))))))))))))))))))))))))))))))))))))))))))))))))))))))))))))))))))))))))))))))))))))))))))))))))))))))))))))))))) (.c 2 rfl (.c 2 rfl (.c 2 rfl (.c 2 rfl (.c 2 rfl (.c 2 rfl (.c 2 rfl (.c 2 rfl (.c 2 rfl (.d 0 (.d 0 .r)))))))))))
                  · refine kIfF rfl ?_
                    refine kExit ?_
                    refine kThenX ?_
                    refine kThenX ?_
                    refine kInX ?_
                    refine kInN ?_
                    refine kThen ?_
                    refine kRegion rfl ?_
                    refine lV (yAdd rfl rfl (by omega)) rfl rfl ?_
                    refine lV (yMove rfl) rfl rfl ?_
                    refine lNil ?_
                    exact kRoundX (i + 1) (by omega) (by omega) rfl (.c rfl .n) (.c rfl (.c rfl (.c rfl (.c rfl (.c rfl (.c rfl (.c rfl (.c rfl (.c rfl (.c rfl (.c rfl (.c rfl (.c rfl (.c rfl (.c rfl (.c rfl (.c rfl (.c rfl (.c rfl (.c rfl (.c rfl (.c rfl (.c rfl (.c rfl (.c rfl (.c rfl (.c rfl (.c rfl (.c rfl (.c rfl (.c rfl (.c rfl (.c rfl (.c rfl (.c rfl (.c rfl (.c rfl (.c rfl (.c rfl (.c rfl (.c rfl (.c rfl (.c rfl (.c rfl (.c rfl (.c rfl (.c rfl (.c rfl (.c rfl (.c rfl (.c rfl (.c rfl (.c rfl (.c rfl (.c rfl (.c rfl (.c rfl (.c rfl (.c rfl (.c rfl (.c rfl (.c rfl (.c rfl (.c rfl (.c rfl (.c rfl (.c rfl .n))))))))))))))))))))))))))))))))))))))))))))))))))))))))))))))))))) (.c 2 rfl (.c 2 rfl (.c 2 rfl (.c 2 rfl (.c 2 rfl (.c 2 rfl (.c 2 rfl (.d 0 (.d 0 .r)))))))))
              · refine kRegion rfl ?_
                refine lV (yLoadA (vs := [_, _, _, _, _, _, _, _]) rfl A29 (cOwn 0 rfl rfl)) rfl rfl ?_
                refine lV (yCall rfl (.c rfl (.c rfl .n)) C15 (fun w hw => habit_any yz z 0 w (hpk.i w (hw.sub (.d 0 (.d 0 (.d 0 (.d 0 (.d 0 (.d 0 (.d 0 (.d 0 .r)))))))))) (by omega))) rfl rfl ?_
                refine same (t := 126) (u := outC ((0, 0), 10)) rfl (by rw [habitE_clash hZ hoz (a := 0) (by omega)]) ?_
                refine lV (yMove rfl) rfl rfl ?_
                refine lV (yExtract rfl rfl) rfl rfl ?_
                refine lV (yExtract rfl rfl) rfl rfl ?_
                refine lE rfl ?_
                refine eAlloc Z24 fun n19 => ?_
                refine lE rfl ?_
                refine eStoreL 0 rfl rfl rfl rfl K24 rfl (rfl) ?_
                refine lV (yAssign rfl) rfl rfl ?_
                refine lNil ?_
                refine kThen ?_
                refine kSeq ?_
                refine kSeq ?_
                refine kRegion rfl ?_
                refine lV (yMove rfl) rfl rfl ?_
                refine lV (yNeq rfl rfl) rfl rfl ?_
                refine knownN (t := 130) rfl (fun h => h rfl) ?_
                refine lV (yMove rfl) rfl rfl ?_
                refine lGY rfl rfl rfl (oV (yMove rfl) rfl ?_)
                refine lGY rfl rfl rfl (oV (yNeq rfl rfl) rfl ?_)
                refine knownN (t := 133) rfl (fun h => h rfl) ?_
                refine lV (yPickF rfl rfl) rfl rfl ?_
                refine lV (yMove rfl) rfl rfl ?_
                refine lGY rfl rfl rfl (oV (yMove rfl) rfl ?_)
                refine lGY rfl rfl rfl (oV (yCall rfl (.c rfl .n) C33 (fun w hw => rsize_any (dropN z) w (by omega))) rfl ?_)
                refine lGY rfl rfl rfl (oV (yMove rfl) rfl ?_)
                refine lGY rfl rfl rfl (oV (yCall rfl (.c rfl .n) C33 (fun w hw => rsize_any (dropN X) w (by omega))) rfl ?_)
                refine lGY rfl rfl rfl (oV (yLss rfl rfl) rfl ?_)
                refine knownN (t := 140) rfl (by omega) ?_
                refine lV (yPickF rfl rfl) rfl rfl ?_
                refine lV (yMove rfl) rfl rfl ?_
                refine lGY rfl rfl rfl (oV (yMove rfl) rfl ?_)
                refine lGY rfl rfl rfl (oV (yEql rfl rfl) rfl ?_)
                refine knownN (t := 144) rfl (by decide) ?_
                refine lGY rfl rfl rfl (oV (yMove rfl) rfl ?_)
                refine lGN rfl rfl rfl rfl rfl ?_
                refine lGN rfl rfl rfl rfl rfl ?_
                refine lGY rfl rfl rfl (oV (yPickF rfl rfl) rfl ?_)
                refine lV (yPickF rfl rfl) rfl rfl ?_
                refine lNil ?_
                refine kThen ?_
                refine kIfF rfl ?_
                refine kSkip ?_
                refine kThen ?_
                refine kSeq ?_
                refine kSeq ?_
                refine kRegion rfl ?_
                refine lV (yMove rfl) rfl rfl ?_
                refine lV (yNeq rfl rfl) rfl rfl ?_
                refine known (t := 151) rfl (by decide) ?_
                refine lNil ?_
                refine kThen ?_
                refine kIfT rfl ?_
                refine kExit ?_
                refine kThenX ?_
                refine kInX ?_
                refine kThen ?_
                refine kRegion rfl ?_
                refine lV (yAdd rfl rfl (by omega)) rfl rfl ?_
                refine lV (yMove rfl) rfl rfl ?_
                refine lNil ?_
                exact kRoundX (i + 1) (by omega) (by omega) rfl (.c rfl .n) (.c rfl (.c rfl (.c rfl (.c rfl (.c rfl (.c rfl (.c rfl (.c rfl (.c rfl (.c rfl (.c rfl (.c rfl (.c rfl (.c rfl (.c rfl (.c rfl (.c rfl (.c rfl (.c rfl (.c rfl (.c rfl (.c rfl (.c rfl (.c rfl (.c rfl (.c rfl (.c rfl (.c rfl (.c rfl (.c rfl (.c rfl (.c rfl (.c rfl (.c rfl (.c rfl (.c rfl (.c rfl (.c rfl (.c rfl (.c rfl (.c rfl (.c rfl (.c rfl (.c rfl (.c rfl (.c rfl (.c rfl (.c rfl (.c rfl (.c rfl (.c rfl (.c rfl (.c rfl (.c rfl (.c rfl (.c rfl (.c rfl (.c rfl (.c rfl (.c rfl (.c rfl (.c rfl (.c rfl (.c rfl (.c rfl (.c rfl (.c rfl .n))))))))))))))))))))))))))))))))))))))))))))))))))))))))))))))))))) (.c 2 rfl (.c 2 rfl (.c 2 rfl (.c 2 rfl (.c 2 rfl (.c 2 rfl (.c 2 rfl (.d 0 (.d 0 .r)))))))))
          · refine kIfF rfl ?_
            refine kExit ?_
            refine kThenX ?_
            refine kThenX ?_
            refine kInX ?_
            refine kThen ?_
            refine kSeq ?_
            refine kRegion rfl ?_
            refine lV (yCall rfl .n C14 (fun w hw => awake_any w)) rfl rfl ?_
            refine lV (yAssign rfl) rfl rfl ?_
            refine lNil ?_
            refine kThen ?_
            refine kRet ?_
            refine fRet rfl (.t rfl .n) (endRet ?_)
            first | rfl | (simp [packV, *]; done)
end Go.Proofs.Ytiaaidcdoenloaa
