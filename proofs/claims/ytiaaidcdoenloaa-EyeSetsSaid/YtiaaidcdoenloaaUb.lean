/-
  Walk: EyePlaces.
-/
import Derived.Test.YtiaaidcdoenloaaUa
namespace Go.Proofs.Ytiaaidcdoenloaa
open ZW

set_option maxHeartbeats 4000000 in
set_option maxRecDepth 100000 in
theorem places_any (y : WLoc) (X : Wat) (w : World) (hm : InW w y X) : Calls Try.prog 7 [.agg (watC y X).toArray].toArray w (Ret w (.bool true)) := by
  refine fEnter Try.func7 rfl Try.ntmps7 rfl ?_
  refine kSeq ?_
  refine kRegion rfl ?_
  refine lE rfl ?_
  refine eBoxA rfl fun n1 => ?_
  refine lV (yAssign rfl) rfl rfl ?_
  refine lNil ?_
  refine kThen ?_
  refine kSeq ?_
  refine kSeq ?_
  refine kRegion rfl ?_
  refine lV (yLoadA (vs := [_, _, _, _, _, _, _, _]) rfl A29 (cOwn 0 rfl rfl)) rfl rfl ?_
  refine lV (yCall rfl (.c rfl (.c rfl .n)) C13 (fun w hw => farw_any y X 12 w (hm.eff hw))) rfl rfl ?_
  refine lV (yMove rfl) rfl rfl ?_
  refine splitB (t := 15) rfl (fun h15 => ?_) (fun h15 => ?_)
  · refine lGN rfl rfl rfl rfl rfl ?_
    refine lGN rfl rfl rfl rfl rfl ?_
    refine lGN rfl rfl rfl rfl rfl ?_
    refine lV (yPickT rfl rfl) rfl rfl ?_
    refine lNil ?_
    refine kThen ?_
    refine kIfT rfl ?_
    refine kSeq ?_
    refine kRegion rfl ?_
    refine lV (yCall rfl .n C14 (fun w hw => awake_any w)) rfl rfl ?_
    refine lV (yAssign rfl) rfl rfl ?_
    refine lNil ?_
    refine kThen ?_
    refine kRet ?_
    refine kThenR ?_
    refine fRet rfl (.t rfl .n) (endRet ?_)
    first | rfl | (simp [packV, *]; done)
  · have hG := of_decide_eq_false h15
    have hn : X.looks.length ≤ 1000000 := by unfold Far at hG; omega
    have hn2 : X.errs.length ≤ 1000000 := by unfold Far at hG; omega
    refine lGY rfl rfl rfl (oV (yLoadA (vs := [_, _, _, _, _, _, _, _]) rfl A29 (cOwn 0 rfl rfl)) rfl ?_)
    refine lGY rfl rfl rfl (oV (yCall rfl (.c rfl .n) C34 (fun w hw => watch_any y X w (hm.eff hw) hn hn2)) rfl ?_)
    refine lGY rfl rfl rfl (oV (yNot rfl) rfl ?_)
    refine lV (yPickF rfl rfl) rfl rfl ?_
    refine lNil ?_
    refine kThen ?_
    refine splitB (t := 19) rfl (fun h19 => ?_) (fun h19 => ?_)
    · refine kIfT rfl ?_
      refine kSeq ?_
      refine kRegion rfl ?_
      refine lV (yCall rfl .n C14 (fun w hw => awake_any w)) rfl rfl ?_
      refine lV (yAssign rfl) rfl rfl ?_
      refine lNil ?_
      refine kThen ?_
      refine kRet ?_
      refine kThenR ?_
      refine fRet rfl (.t rfl .n) (endRet ?_)
      first | rfl | (simp [packV, *]; done)
    · refine kIfF rfl ?_
      refine kSkip ?_
      refine kThen ?_
      refine kSeq ?_
      refine kSeq ?_
      have hM := notF h19
      have hN := hM.n
      have hI := hM.i
      have hE := hM.e
      obtain ⟨e, he⟩ : ∃ e : Nat, X.images.toNat = e := ⟨_, rfl⟩
      refine kRegion rfl ?_
      refine lV (yFieldAddr rfl F29_1) rfl rfl ?_
      refine lV (yLoad1 rfl O3 (cOwn 0 rfl rfl)) rfl rfl ?_
      refine same (t := 22) (u := i64 ((e : Nat) : Int)) rfl (congrArg i64 (by omega)) ?_
      refine lV (yMove rfl) rfl rfl ?_
      refine lNil ?_
      refine kThen ?_
      refine kBlock ?_
      refine kLoopX (ι := Nat) (fun a => a ≤ e) (fun a => [(23, i64 (a : Nat))]) [(0, _), (1, _), (13, _), (14, _), (15, _), (16, _), (17, _), (18, _), (19, _), (21, _), (22, _)] (fun a => []) (fun a => []) [(n1, _)] (fun a => e - a) 0 (Nat.zero_le _) rfl (.c rfl .n) (.c rfl (.c rfl (.c rfl (.c rfl (.c rfl (.c rfl (.c rfl (.c rfl (.c rfl (.c rfl (.c rfl .n))))))))))) (.c 0 rfl .n) ?_
      rintro a ha
      refine kSeq ?_
      refine kRegion rfl ?_
      refine lV (yLss rfl rfl) rfl rfl ?_
      refine lNil ?_
      refine kThen ?_
      refine kSeq ?_
      refine split (t := 24) rfl (fun h24 => ?_) (fun h24 => ?_)
      · refine kIfT rfl ?_
        refine kSkip ?_
        refine kThen ?_
        refine kSeq ?_
        refine kBlock ?_
        refine kSeq ?_
        by_cases ho : okW X
        · have har : 0 ≤ ((a : Nat) : Int) ∧ ((a : Nat) : Int) ≤ X.images - 1 := by omega
          refine kRegion rfl ?_
          refine lV (yMove rfl) rfl rfl ?_
          refine lV (yAssign rfl) rfl rfl ?_
          refine lNil ?_
          refine kThen ?_
          refine kSeq ?_
          by_cases hsn : seenI X a
          · refine kRegion rfl ?_
            refine lV (yLoadA (vs := [_, _, _, _, _, _, _, _]) rfl A29 (cOwn 0 rfl rfl)) rfl rfl ?_
            refine lV (yMove rfl) rfl rfl ?_
            refine lV (yCall rfl (.c rfl (.c rfl .n)) C19 (fun w hw => place_any y X (a : Nat) w (hm.eff hw) hn)) rfl rfl ?_
            refine same (t := 29) (u := outC (plaP X a, 0)) rfl (by rw [placeE_ok hM ho har hsn]; rfl) ?_
            refine lV (yMove rfl) rfl rfl ?_
            refine lV (yExtract rfl rfl) rfl rfl ?_
            refine lV (yExtract rfl rfl) rfl rfl ?_
            refine lE rfl ?_
            refine eAlloc Z24 fun n4 => ?_
            refine lE rfl ?_
            refine eStoreL 0 rfl rfl rfl rfl K24 rfl (rfl) ?_
            refine lV (yAssign rfl) rfl rfl ?_
            refine lNil ?_
            refine kThen ?_
            refine kSeq ?_
            refine kRegion rfl ?_
            refine lV (yAssign rfl) rfl rfl ?_
            refine lNil ?_
            refine kThen ?_
            refine kSeq ?_
            refine kSeq ?_
            refine kRegion rfl ?_
            refine lV (yFieldAddr rfl F29_4) rfl rfl ?_
            refine lV (yLoad1 rfl O27 (cOwn 1 rfl rfl)) rfl rfl ?_
            refine lV (yLen rfl S27) rfl rfl ?_
            refine lV (yMove rfl) rfl rfl ?_
            refine lNil ?_
            refine kThen ?_
            refine kBlock ?_
            refine kLoopX (ι := Nat × Bool) (fun x => x.1 ≤ X.looks.length ∧ x.2 = seenB X a x.1) (fun x => [(35, i64 (x.1 : Nat)), (6, .bool x.2)]) [(0, _), (1, _), (13, _), (14, _), (15, _), (16, _), (17, _), (18, _), (19, _), (21, _), (22, _), (23, _), (24, _), (25, _), (3, _), (27, _), (28, _), (29, _), (26, _), (30, _), (31, _), (4, _), (5, _), (32, _), (33, _), (34, _)] (fun x => []) (fun x => []) [(n4, _), (n1, _)] (fun x => X.looks.length - x.1) (0, false) (⟨Nat.zero_le _, rfl⟩) rfl (.c rfl (.c rfl .n)) (.c rfl (.c rfl (.c rfl (.c rfl (.c rfl (.c rfl (.c rfl (.c rfl (.c rfl (.c rfl (.c rfl (.c rfl (.c rfl (.c rfl (.c rfl (.c rfl (.c rfl (.c rfl (.c rfl (.c rfl (.c rfl (.c rfl (.c rfl (.c rfl (.c rfl (.c rfl .n)))))))))))))))))))))))))) (.c 0 rfl (.c 0 rfl .n)) ?_
            rintro ⟨k, s⟩ ⟨hk, hs⟩
            dsimp only at hk hs ⊢
            refine kSeq ?_
            refine kRegion rfl ?_
            refine lV (yLss rfl rfl) rfl rfl ?_
            refine lNil ?_
            refine kThen ?_
            refine kSeq ?_
            refine split (t := 36) rfl (fun h36 => ?_) (fun h36 => ?_)
            · refine kIfT rfl ?_
              refine kSkip ?_
              refine kThen ?_
              refine kSeq ?_
              refine kBlock ?_
              refine kSeq ?_
              refine kRegion rfl ?_
              refine lV (yIndexS  rfl rfl S27 (hm.l.r) ((by omega))) rfl rfl ?_
              refine lV (yLoadA (vs := [_, _, _]) rfl A47 (cSl0 (hm.l.r) ((by omega)) rfl)) rfl rfl ?_
              refine lE rfl ?_
              refine eAlloc Z47 fun n8 => ?_
              refine lE rfl ?_
              refine eStoreL 0 rfl rfl rfl rfl K47 rfl (rfl) ?_
              refine lNil ?_
              refine kThen ?_
              refine kSeq ?_
              refine kSeq ?_
              refine kRegion rfl ?_
              refine lV (yFieldAddr rfl F47_1) rfl rfl ?_
              refine lV (yLoad1 rfl O3 (cOwn 0 rfl rfl)) rfl rfl ?_
              refine lV (yMove rfl) rfl rfl ?_
              refine lV (yNeq rfl rfl) rfl rfl ?_
              refine lNil ?_
              refine kThen ?_
              refine split (t := 42) rfl (fun h42 => ?_) (fun h42 => ?_)
              · refine kIfT rfl ?_
                refine kExit ?_
                refine kThenX ?_
                refine kInX ?_
                refine kThen ?_
                refine kRegion rfl ?_
                refine lV (yAdd rfl rfl (by omega)) rfl rfl ?_
                refine lV (yMove rfl) rfl rfl ?_
                refine lNil ?_
                exact kRoundX (k + 1, s) (⟨by dsimp only; omega, by dsimp only; rw [seenB_succ, decide_eq_false h42, Bool.or_false]; exact hs⟩) (by dsimp only; omega) rfl (.c rfl (.c rfl .n)) (.c rfl (.c rfl (.c rfl (.c rfl (.c rfl (.c rfl (.c rfl (.c rfl (.c rfl (.c rfl (.c rfl (.c rfl (.c rfl (.c rfl (.c rfl (.c rfl (.c rfl (.c rfl (.c rfl (.c rfl (.c rfl (.c rfl (.c rfl (.c rfl (.c rfl (.c rfl .n)))))))))))))))))))))))))) (.c 1 rfl (.c 1 rfl .n))
              · have hik : (lkAt X k).2.1 = (a : Nat) := Decidable.not_not.1 h42
                have hka : (lkAt X k).2.1.toNat = a := by rw [hik]; rfl
                have hkl : k < X.looks.length := by omega
                refine kIfF rfl ?_
                refine kSkip ?_
                refine kThen ?_
                refine kSeq ?_
                refine kRegion rfl ?_
                refine lV (yAssign rfl) rfl rfl ?_
                refine lNil ?_
                refine kThen ?_
                refine kSeq ?_
                have hll := (hM.l _ (lkAt_mem hkl)).2.1
                refine kRegion rfl ?_
                refine lV (yLoadA (vs := [_, _, _, _, _, _, _, _]) rfl A29 (cOwn 2 rfl rfl)) rfl rfl ?_
                refine lV (yFieldAddr rfl F47_0) rfl rfl ?_
                refine lV (yLoad1 rfl O3 (cOwn 0 rfl rfl)) rfl rfl ?_
                refine lV (yCall rfl (.c rfl (.c rfl .n)) C15 (fun w hw => habit_any y X (lkAt X k).1 w (hm.eff hw) hn)) rfl rfl ?_
                refine same (t := 47) (u := outC (habP X (lkAt X k).1.toNat, 0)) rfl (by rw [habitE_ok hM ho hll]) ?_
                refine lV (yMove rfl) rfl rfl ?_
                refine lV (yExtract rfl rfl) rfl rfl ?_
                refine lV (yExtract rfl rfl) rfl rfl ?_
                refine lE rfl ?_
                refine eAlloc Z24 fun n9 => ?_
                refine lE rfl ?_
                refine eStoreL 0 rfl rfl rfl rfl K24 rfl (rfl) ?_
                refine lV (yAssign rfl) rfl rfl ?_
                refine lNil ?_
                refine kThen ?_
                refine kSeq ?_
                refine kRegion rfl ?_
                refine lV (yFieldAddr rfl F29_0) rfl rfl ?_
                refine lV (yLoadA (vs := [_, _, _]) rfl A26 (cOwn 3 rfl rfl)) rfl rfl ?_
                refine lV (yFieldAddr rfl F47_2) rfl rfl ?_
                refine lV (yLoad1 rfl O3 (cOwn 1 rfl rfl)) rfl rfl ?_
                refine lV (yCall rfl (.c rfl (.c rfl .n)) C31 (fun w hw => travelX_any y.l X.m (lkAt X k).2.2 w (hm.eff hw).m)) rfl rfl ?_
                refine same (t := 55) (u := outC (trv X k, 0)) rfl (by rw [travelE_look hM hkl]) ?_
                refine lV (yMove rfl) rfl rfl ?_
                refine lV (yExtract rfl rfl) rfl rfl ?_
                refine lV (yExtract rfl rfl) rfl rfl ?_
                refine lE rfl ?_
                refine eAlloc Z24 fun n11 => ?_
                refine lE rfl ?_
                refine eStoreL 0 rfl rfl rfl rfl K24 rfl (rfl) ?_
                refine lV (yAssign rfl) rfl rfl ?_
                refine lNil ?_
                have hpl := place_look hM ho hkl
                rw [hka] at hpl
                have hhb := habP_bd hM ho (lk_eye hM hkl)
                have htb := trv_bd hM hkl
                dsimp only
                refine kThen ?_
                refine kSeq ?_
                refine kRegion rfl ?_
                refine lV (yMove rfl) rfl rfl ?_
                refine lV (yMove rfl) rfl rfl ?_
                refine lV (yNeq rfl rfl) rfl rfl ?_
                refine knownN (t := 60) rfl (fun h => h rfl) ?_
                refine lV (yMove rfl) rfl rfl ?_
                refine lGY rfl rfl rfl (oV (yMove rfl) rfl ?_)
                refine lGY rfl rfl rfl (oV (yNeq rfl rfl) rfl ?_)
                refine knownN (t := 63) rfl (fun h => h rfl) ?_
                refine lV (yPickF rfl rfl) rfl rfl ?_
                refine lV (yMove rfl) rfl rfl ?_
                refine lGY rfl rfl rfl (oV (yMove rfl) rfl ?_)
                refine lGY rfl rfl rfl (oV (yEql rfl rfl) rfl ?_)
                refine known (t := 67) rfl (rfl) ?_
                refine lGY rfl rfl rfl (oV (yMove rfl) rfl ?_)
                refine lGY rfl rfl rfl (oV (yFieldAddr rfl F24_0) rfl ?_)
                refine lGY rfl rfl rfl (oV (yLoad1 rfl O3 (cOwn 3 rfl rfl)) rfl ?_)
                refine lGY rfl rfl rfl (oV (yFieldAddr rfl F24_0) rfl ?_)
                refine lGY rfl rfl rfl (oV (yLoad1 rfl O3 (cOwn 0 rfl rfl)) rfl ?_)
                refine lGY rfl rfl rfl (oV (yFieldAddr rfl F24_0) rfl ?_)
                refine lGY rfl rfl rfl (oV (yLoad1 rfl O3 (cOwn 1 rfl rfl)) rfl ?_)
                refine lGY rfl rfl rfl (oV (yAdd rfl rfl (by omega)) rfl ?_)
                refine lGY rfl rfl rfl (oV (yLss rfl rfl) rfl ?_)
                refine knownN (t := 76) rfl (by omega) ?_
                refine lGY rfl rfl rfl (oV (yMove rfl) rfl ?_)
                refine lGY rfl rfl rfl (oV (yFieldAddr rfl F24_1) rfl ?_)
                refine lGY rfl rfl rfl (oV (yLoad1 rfl O3 (cOwn 3 rfl rfl)) rfl ?_)
                refine lGY rfl rfl rfl (oV (yFieldAddr rfl F24_1) rfl ?_)
                refine lGY rfl rfl rfl (oV (yLoad1 rfl O3 (cOwn 0 rfl rfl)) rfl ?_)
                refine lGY rfl rfl rfl (oV (yFieldAddr rfl F24_1) rfl ?_)
                refine lGY rfl rfl rfl (oV (yLoad1 rfl O3 (cOwn 1 rfl rfl)) rfl ?_)
                refine lGY rfl rfl rfl (oV (yAdd rfl rfl (by omega)) rfl ?_)
                refine lGY rfl rfl rfl (oV (yGtr rfl rfl) rfl ?_)
                refine knownN (t := 85) rfl (by omega) ?_
                refine lGY rfl rfl rfl (oV (yPickF rfl rfl) rfl ?_)
                refine lGY rfl rfl rfl (oV (yMove rfl) rfl ?_)
                refine lGY rfl rfl rfl (oV (yFieldAddr rfl F24_0) rfl ?_)
                refine lGY rfl rfl rfl (oV (yLoad1 rfl O3 (cOwn 3 rfl rfl)) rfl ?_)
                refine lGY rfl rfl rfl (oV (yFieldAddr rfl F24_1) rfl ?_)
                refine lGY rfl rfl rfl (oV (yLoad1 rfl O3 (cOwn 3 rfl rfl)) rfl ?_)
                refine lGY rfl rfl rfl (oV (yGtr rfl rfl) rfl ?_)
                refine knownN (t := 92) rfl (by omega) ?_
                refine lGY rfl rfl rfl (oV (yPickF rfl rfl) rfl ?_)
                refine lGY rfl rfl rfl (oV (yPickT rfl rfl) rfl ?_)
                refine lV (yPickF rfl rfl) rfl rfl ?_
                refine lNil ?_
                refine kThen ?_
                refine kIfF rfl ?_
                refine kSkip ?_
                refine kInN ?_
                refine kThen ?_
                refine kRegion rfl ?_
                refine lV (yAdd rfl rfl (by omega)) rfl rfl ?_
                refine lV (yMove rfl) rfl rfl ?_
                refine lNil ?_
                exact kRoundX (k + 1, true) (⟨by dsimp only; omega, by dsimp only; rw [seenB_succ, decide_eq_true hik, Bool.or_true]⟩) (by dsimp only; omega) rfl (.c rfl (.c rfl .n)) (.c rfl (.c rfl (.c rfl (.c rfl (.c rfl (.c rfl (.c rfl (.c rfl (.c rfl (.c rfl (.c rfl (.c rfl (.c rfl (.c rfl (.c rfl (.c rfl (.c rfl (.c rfl (.c rfl (.c rfl (.c rfl (.c rfl (.c rfl (.c rfl (.c rfl (.c rfl .n)))))))))))))))))))))))))) (.c 3 rfl (.c 3 rfl .n))
            · refine kIfF rfl ?_
              refine kExit ?_
              refine kThenX ?_
              refine kThenX ?_
              refine kInX ?_
              refine kThen ?_
              refine kSeq ?_
              obtain rfl : k = X.looks.length := by omega
              refine kRegion rfl ?_
              refine lV (yMove rfl) rfl rfl ?_
              refine lV (yEql rfl rfl) rfl rfl ?_
              refine known (t := 98) rfl (rfl) ?_
              refine lV (yMove rfl) rfl rfl ?_
              refine lGY rfl rfl rfl (oV (yMove rfl) rfl ?_)
              refine knownB (t := 100) (c := true) rfl (hs.trans ((seenB_iff hM a).2 hsn)) ?_
              refine lGY rfl rfl rfl (oV (yNot rfl) rfl ?_)
              refine lV (yPickT rfl rfl) rfl rfl ?_
              refine lV (yMove rfl) rfl rfl ?_
              refine lGY rfl rfl rfl (oV (yMove rfl) rfl ?_)
              refine lGY rfl rfl rfl (oV (yEql rfl rfl) rfl ?_)
              refine knownN (t := 105) rfl (by decide) ?_
              refine lGY rfl rfl rfl (oV (yMove rfl) rfl ?_)
              refine lGN rfl rfl rfl rfl rfl ?_
              refine lGY rfl rfl rfl (oV (yPickF rfl rfl) rfl ?_)
              refine lV (yPickF rfl rfl) rfl rfl ?_
              refine lV (yMove rfl) rfl rfl ?_
              refine lGY rfl rfl rfl (oV (yMove rfl) rfl ?_)
              refine lGY rfl rfl rfl (oV (yNeq rfl rfl) rfl ?_)
              refine knownN (t := 112) rfl (fun h => h rfl) ?_
              refine lGY rfl rfl rfl (oV (yMove rfl) rfl ?_)
              refine lGN rfl rfl rfl rfl rfl ?_
              refine lGN rfl rfl rfl rfl rfl ?_
              refine lGN rfl rfl rfl rfl rfl ?_
              refine lGY rfl rfl rfl (oV (yPickF rfl rfl) rfl ?_)
              refine lV (yPickF rfl rfl) rfl rfl ?_
              refine lV (yMove rfl) rfl rfl ?_
              refine lGY rfl rfl rfl (oV (yMove rfl) rfl ?_)
              refine lGY rfl rfl rfl (oV (yNeq rfl rfl) rfl ?_)
              refine knownN (t := 121) rfl (fun h => h rfl) ?_
              refine lGY rfl rfl rfl (oV (yMove rfl) rfl ?_)
              refine lGN rfl rfl rfl rfl rfl ?_
              refine lGN rfl rfl rfl rfl rfl ?_
              refine lGY rfl rfl rfl (oV (yPickF rfl rfl) rfl ?_)
              refine lGY rfl rfl rfl (oV (yMove rfl) rfl ?_)
              refine lGN rfl rfl rfl rfl rfl ?_
              refine lGN rfl rfl rfl rfl rfl ?_
              refine lGY rfl rfl rfl (oV (yPickF rfl rfl) rfl ?_)
              refine lV (yPickF rfl rfl) rfl rfl ?_
              refine lNil ?_
              refine kThen ?_
              refine kIfF rfl ?_
              refine kSkip ?_
              refine kInN ?_
              refine kThen ?_
              refine kRegion rfl ?_
              refine lV (yAdd rfl rfl (by omega)) rfl rfl ?_
              refine lV (yMove rfl) rfl rfl ?_
              refine lNil ?_
              exact kRoundX (a + 1) (by omega) (by omega) rfl (.c rfl .n) (.c rfl (.c rfl (.c rfl (.c rfl (.c rfl (.c rfl (.c rfl (.c rfl (.c rfl (.c rfl (.c rfl .n))))))))))) (.c 1 rfl .n)
          · refine kRegion rfl ?_
            refine lV (yLoadA (vs := [_, _, _, _, _, _, _, _]) rfl A29 (cOwn 0 rfl rfl)) rfl rfl ?_
            refine lV (yMove rfl) rfl rfl ?_
            refine lV (yCall rfl (.c rfl (.c rfl .n)) C19 (fun w hw => place_any y X (a : Nat) w (hm.eff hw) hn)) rfl rfl ?_
            refine same (t := 29) (u := outC ((0, 0), 12)) rfl (by rw [placeE_doubt hM ho har hsn]) ?_
            refine lV (yMove rfl) rfl rfl ?_
            refine lV (yExtract rfl rfl) rfl rfl ?_
            refine lV (yExtract rfl rfl) rfl rfl ?_
            refine lE rfl ?_
            refine eAlloc Z24 fun n4 => ?_
            refine lE rfl ?_
            refine eStoreL 0 rfl rfl rfl rfl K24 rfl (rfl) ?_
            refine lV (yAssign rfl) rfl rfl ?_
            refine lNil ?_
            refine kThen ?_
            refine kSeq ?_
            refine kRegion rfl ?_
            refine lV (yAssign rfl) rfl rfl ?_
            refine lNil ?_
            refine kThen ?_
            refine kSeq ?_
            refine kSeq ?_
            refine kRegion rfl ?_
            refine lV (yFieldAddr rfl F29_4) rfl rfl ?_
            refine lV (yLoad1 rfl O27 (cOwn 1 rfl rfl)) rfl rfl ?_
            refine lV (yLen rfl S27) rfl rfl ?_
            refine lV (yMove rfl) rfl rfl ?_
            refine lNil ?_
            refine kThen ?_
            refine kBlock ?_
            refine kLoopX (ι := Nat × Bool) (fun x => x.1 ≤ X.looks.length ∧ x.2 = seenB X a x.1) (fun x => [(35, i64 (x.1 : Nat)), (6, .bool x.2)]) [(0, _), (1, _), (13, _), (14, _), (15, _), (16, _), (17, _), (18, _), (19, _), (21, _), (22, _), (23, _), (24, _), (25, _), (3, _), (27, _), (28, _), (29, _), (26, _), (30, _), (31, _), (4, _), (5, _), (32, _), (33, _), (34, _)] (fun x => []) (fun x => []) [(n4, _), (n1, _)] (fun x => X.looks.length - x.1) (0, false) (⟨Nat.zero_le _, rfl⟩) rfl (.c rfl (.c rfl .n)) (.c rfl (.c rfl (.c rfl (.c rfl (.c rfl (.c rfl (.c rfl (.c rfl (.c rfl (.c rfl (.c rfl (.c rfl (.c rfl (.c rfl (.c rfl (.c rfl (.c rfl (.c rfl (.c rfl (.c rfl (.c rfl (.c rfl (.c rfl (.c rfl (.c rfl (.c rfl .n)))))))))))))))))))))))))) (.c 0 rfl (.c 0 rfl .n)) ?_
            rintro ⟨k, s⟩ ⟨hk, hs⟩
            dsimp only at hk hs ⊢
            refine kSeq ?_
            refine kRegion rfl ?_
            refine lV (yLss rfl rfl) rfl rfl ?_
            refine lNil ?_
            refine kThen ?_
            refine kSeq ?_
            refine split (t := 36) rfl (fun h36 => ?_) (fun h36 => ?_)
            · refine kIfT rfl ?_
              refine kSkip ?_
              refine kThen ?_
              refine kSeq ?_
              refine kBlock ?_
              refine kSeq ?_
              refine kRegion rfl ?_
              refine lV (yIndexS  rfl rfl S27 (hm.l.r) ((by omega))) rfl rfl ?_
              refine lV (yLoadA (vs := [_, _, _]) rfl A47 (cSl0 (hm.l.r) ((by omega)) rfl)) rfl rfl ?_
              refine lE rfl ?_
              refine eAlloc Z47 fun n8 => ?_
              refine lE rfl ?_
              refine eStoreL 0 rfl rfl rfl rfl K47 rfl (rfl) ?_
              refine lNil ?_
              refine kThen ?_
              refine kSeq ?_
              refine kSeq ?_
              refine kRegion rfl ?_
              refine lV (yFieldAddr rfl F47_1) rfl rfl ?_
              refine lV (yLoad1 rfl O3 (cOwn 0 rfl rfl)) rfl rfl ?_
              refine lV (yMove rfl) rfl rfl ?_
              refine lV (yNeq rfl rfl) rfl rfl ?_
              refine lNil ?_
              refine kThen ?_
              refine split (t := 42) rfl (fun h42 => ?_) (fun h42 => ?_)
              · refine kIfT rfl ?_
                refine kExit ?_
                refine kThenX ?_
                refine kInX ?_
                refine kThen ?_
                refine kRegion rfl ?_
                refine lV (yAdd rfl rfl (by omega)) rfl rfl ?_
                refine lV (yMove rfl) rfl rfl ?_
                refine lNil ?_
                exact kRoundX (k + 1, s) (⟨by dsimp only; omega, by dsimp only; rw [seenB_succ, decide_eq_false h42, Bool.or_false]; exact hs⟩) (by dsimp only; omega) rfl (.c rfl (.c rfl .n)) (.c rfl (.c rfl (.c rfl (.c rfl (.c rfl (.c rfl (.c rfl (.c rfl (.c rfl (.c rfl (.c rfl (.c rfl (.c rfl (.c rfl (.c rfl (.c rfl (.c rfl (.c rfl (.c rfl (.c rfl (.c rfl (.c rfl (.c rfl (.c rfl (.c rfl (.c rfl .n)))))))))))))))))))))))))) (.c 1 rfl (.c 1 rfl .n))
              · exact absurd ⟨k, by omega, by have h := Decidable.not_not.1 h42; show (lkAt X k).2.1.toNat = a; show (X.looks.getD k look0).2.1.toNat = a; rw [h]; rfl⟩ hsn
            · refine kIfF rfl ?_
              refine kExit ?_
              refine kThenX ?_
              refine kThenX ?_
              refine kInX ?_
              refine kThen ?_
              refine kSeq ?_
              obtain rfl : k = X.looks.length := by omega
              refine kRegion rfl ?_
              refine lV (yMove rfl) rfl rfl ?_
              refine lV (yEql rfl rfl) rfl rfl ?_
              refine knownN (t := 98) rfl (by decide) ?_
              refine lV (yMove rfl) rfl rfl ?_
              refine lGN rfl rfl rfl rfl rfl ?_
              refine lGN rfl rfl rfl rfl rfl ?_
              refine lV (yPickF rfl rfl) rfl rfl ?_
              refine lV (yMove rfl) rfl rfl ?_
              refine lGY rfl rfl rfl (oV (yMove rfl) rfl ?_)
              refine lGY rfl rfl rfl (oV (yEql rfl rfl) rfl ?_)
              refine known (t := 105) rfl (rfl) ?_
              refine lGY rfl rfl rfl (oV (yMove rfl) rfl ?_)
              refine lGY rfl rfl rfl (oV (yMove rfl) rfl ?_)
              refine knownB (t := 107) (c := false) rfl (hs.trans (Bool.eq_false_iff.2 fun h => hsn ((seenB_iff hM a).1 h))) ?_
              refine lGY rfl rfl rfl (oV (yPickT rfl rfl) rfl ?_)
              refine lV (yPickF rfl rfl) rfl rfl ?_
              refine lV (yMove rfl) rfl rfl ?_
              refine lGY rfl rfl rfl (oV (yMove rfl) rfl ?_)
              refine lGY rfl rfl rfl (oV (yNeq rfl rfl) rfl ?_)
              refine known (t := 112) rfl (by decide) ?_
              refine lGY rfl rfl rfl (oV (yMove rfl) rfl ?_)
              refine lGY rfl rfl rfl (oV (yLoadA (vs := [_, _]) rfl A24 (cOwn 0 rfl rfl)) rfl ?_)
              refine lGY rfl rfl rfl (oV (yBuild .n (fun w => B24_ w)) rfl ?_)
              refine lGY rfl rfl rfl (oV (yNeAgg rfl rfl G24 (fun w => Q24 w)) rfl ?_)
              refine knownB (t := 116) (c := false) rfl (by simp) ?_
              refine lGY rfl rfl rfl (oV (yPickT rfl rfl) rfl ?_)
              refine lV (yPickF rfl rfl) rfl rfl ?_
              refine lV (yMove rfl) rfl rfl ?_
              refine lGY rfl rfl rfl (oV (yMove rfl) rfl ?_)
              refine lGY rfl rfl rfl (oV (yNeq rfl rfl) rfl ?_)
              refine known (t := 121) rfl (by decide) ?_
              refine lGY rfl rfl rfl (oV (yMove rfl) rfl ?_)
              refine lGY rfl rfl rfl (oV (yMove rfl) rfl ?_)
              refine lGY rfl rfl rfl (oV (yNeq rfl rfl) rfl ?_)
              refine knownN (t := 124) rfl (fun h => h rfl) ?_
              refine lGY rfl rfl rfl (oV (yPickT rfl rfl) rfl ?_)
              refine lGY rfl rfl rfl (oV (yMove rfl) rfl ?_)
              refine lGN rfl rfl rfl rfl rfl ?_
              refine lGN rfl rfl rfl rfl rfl ?_
              refine lGY rfl rfl rfl (oV (yPickF rfl rfl) rfl ?_)
              refine lV (yPickF rfl rfl) rfl rfl ?_
              refine lNil ?_
              refine kThen ?_
              refine kIfF rfl ?_
              refine kSkip ?_
              refine kInN ?_
              refine kThen ?_
              refine kRegion rfl ?_
              refine lV (yAdd rfl rfl (by omega)) rfl rfl ?_
              refine lV (yMove rfl) rfl rfl ?_
              refine lNil ?_
              exact kRoundX (a + 1) (by omega) (by omega) rfl (.c rfl .n) (.c rfl (.c rfl (.c rfl (.c rfl (.c rfl (.c rfl (.c rfl (.c rfl (.c rfl (.c rfl (.c rfl .n))))))))))) (.c 1 rfl .n)
        · have har : 0 ≤ ((a : Nat) : Int) ∧ ((a : Nat) : Int) ≤ X.images - 1 := by omega
          refine kRegion rfl ?_
          refine lV (yMove rfl) rfl rfl ?_
          refine lV (yAssign rfl) rfl rfl ?_
          refine lNil ?_
          refine kThen ?_
          refine kSeq ?_
          refine kRegion rfl ?_
          refine lV (yLoadA (vs := [_, _, _, _, _, _, _, _]) rfl A29 (cOwn 0 rfl rfl)) rfl rfl ?_
          refine lV (yMove rfl) rfl rfl ?_
          refine lV (yCall rfl (.c rfl (.c rfl .n)) C19 (fun w hw => place_any y X (a : Nat) w (hm.eff hw) hn)) rfl rfl ?_
          refine same (t := 29) (u := outC ((0, 0), 10)) rfl (by rw [placeE_clash hM ho har]) ?_
          refine lV (yMove rfl) rfl rfl ?_
          refine lV (yExtract rfl rfl) rfl rfl ?_
          refine lV (yExtract rfl rfl) rfl rfl ?_
          refine lE rfl ?_
          refine eAlloc Z24 fun n4 => ?_
          refine lE rfl ?_
          refine eStoreL 0 rfl rfl rfl rfl K24 rfl (rfl) ?_
          refine lV (yAssign rfl) rfl rfl ?_
          refine lNil ?_
          refine kThen ?_
          refine kSeq ?_
          refine kRegion rfl ?_
          refine lV (yAssign rfl) rfl rfl ?_
          refine lNil ?_
          refine kThen ?_
          refine kSeq ?_
          refine kSeq ?_
          refine kRegion rfl ?_
          refine lV (yFieldAddr rfl F29_4) rfl rfl ?_
          refine lV (yLoad1 rfl O27 (cOwn 1 rfl rfl)) rfl rfl ?_
          refine lV (yLen rfl S27) rfl rfl ?_
          refine lV (yMove rfl) rfl rfl ?_
          refine lNil ?_
          refine kThen ?_
          refine kBlock ?_
          refine kLoopX (ι := Nat × Bool) (fun x => x.1 ≤ X.looks.length ∧ x.2 = seenB X a x.1) (fun x => [(35, i64 (x.1 : Nat)), (6, .bool x.2)]) [(0, _), (1, _), (13, _), (14, _), (15, _), (16, _), (17, _), (18, _), (19, _), (21, _), (22, _), (23, _), (24, _), (25, _), (3, _), (27, _), (28, _), (29, _), (26, _), (30, _), (31, _), (4, _), (5, _), (32, _), (33, _), (34, _)] (fun x => []) (fun x => []) [(n4, _), (n1, _)] (fun x => X.looks.length - x.1) (0, false) (⟨Nat.zero_le _, rfl⟩) rfl (.c rfl (.c rfl .n)) (.c rfl (.c rfl (.c rfl (.c rfl (.c rfl (.c rfl (.c rfl (.c rfl (.c rfl (.c rfl (.c rfl (.c rfl (.c rfl (.c rfl (.c rfl (.c rfl (.c rfl (.c rfl (.c rfl (.c rfl (.c rfl (.c rfl (.c rfl (.c rfl (.c rfl (.c rfl .n)))))))))))))))))))))))))) (.c 0 rfl (.c 0 rfl .n)) ?_
          rintro ⟨k, s⟩ ⟨hk, hs⟩
          dsimp only at hk hs ⊢
          refine kSeq ?_
          refine kRegion rfl ?_
          refine lV (yLss rfl rfl) rfl rfl ?_
          refine lNil ?_
          refine kThen ?_
          refine kSeq ?_
          refine split (t := 36) rfl (fun h36 => ?_) (fun h36 => ?_)
          · refine kIfT rfl ?_
            refine kSkip ?_
            refine kThen ?_
            refine kSeq ?_
            refine kBlock ?_
            refine kSeq ?_
            refine kRegion rfl ?_
            refine lV (yIndexS  rfl rfl S27 (hm.l.r) ((by omega))) rfl rfl ?_
            refine lV (yLoadA (vs := [_, _, _]) rfl A47 (cSl0 (hm.l.r) ((by omega)) rfl)) rfl rfl ?_
            refine lE rfl ?_
            refine eAlloc Z47 fun n8 => ?_
            refine lE rfl ?_
            refine eStoreL 0 rfl rfl rfl rfl K47 rfl (rfl) ?_
            refine lNil ?_
            refine kThen ?_
            refine kSeq ?_
            refine kSeq ?_
            refine kRegion rfl ?_
            refine lV (yFieldAddr rfl F47_1) rfl rfl ?_
            refine lV (yLoad1 rfl O3 (cOwn 0 rfl rfl)) rfl rfl ?_
            refine lV (yMove rfl) rfl rfl ?_
            refine lV (yNeq rfl rfl) rfl rfl ?_
            refine lNil ?_
            refine kThen ?_
            refine split (t := 42) rfl (fun h42 => ?_) (fun h42 => ?_)
            · refine kIfT rfl ?_
              refine kExit ?_
              refine kThenX ?_
              refine kInX ?_
              refine kThen ?_
              refine kRegion rfl ?_
              refine lV (yAdd rfl rfl (by omega)) rfl rfl ?_
              refine lV (yMove rfl) rfl rfl ?_
              refine lNil ?_
              exact kRoundX (k + 1, s) (⟨by dsimp only; omega, by dsimp only; rw [seenB_succ, decide_eq_false h42, Bool.or_false]; exact hs⟩) (by dsimp only; omega) rfl (.c rfl (.c rfl .n)) (.c rfl (.c rfl (.c rfl (.c rfl (.c rfl (.c rfl (.c rfl (.c rfl (.c rfl (.c rfl (.c rfl (.c rfl (.c rfl (.c rfl (.c rfl (.c rfl (.c rfl (.c rfl (.c rfl (.c rfl (.c rfl (.c rfl (.c rfl (.c rfl (.c rfl (.c rfl .n)))))))))))))))))))))))))) (.c 1 rfl (.c 1 rfl .n))
            · have hik : (lkAt X k).2.1 = (a : Nat) := Decidable.not_not.1 h42
              have hka : (lkAt X k).2.1.toNat = a := by rw [hik]; rfl
              have hkl : k < X.looks.length := by omega
              refine kIfF rfl ?_
              refine kSkip ?_
              refine kThen ?_
              refine kSeq ?_
              refine kRegion rfl ?_
              refine lV (yAssign rfl) rfl rfl ?_
              refine lNil ?_
              refine kThen ?_
              refine kSeq ?_
              have hll := (hM.l _ (lkAt_mem hkl)).2.1
              refine kRegion rfl ?_
              refine lV (yLoadA (vs := [_, _, _, _, _, _, _, _]) rfl A29 (cOwn 2 rfl rfl)) rfl rfl ?_
              refine lV (yFieldAddr rfl F47_0) rfl rfl ?_
              refine lV (yLoad1 rfl O3 (cOwn 0 rfl rfl)) rfl rfl ?_
              refine lV (yCall rfl (.c rfl (.c rfl .n)) C15 (fun w hw => habit_any y X (lkAt X k).1 w (hm.eff hw) hn)) rfl rfl ?_
              refine same (t := 47) (u := outC ((0, 0), 10)) rfl (by rw [habitE_clash hM ho hll]) ?_
              refine lV (yMove rfl) rfl rfl ?_
              refine lV (yExtract rfl rfl) rfl rfl ?_
              refine lV (yExtract rfl rfl) rfl rfl ?_
              refine lE rfl ?_
              refine eAlloc Z24 fun n9 => ?_
              refine lE rfl ?_
              refine eStoreL 0 rfl rfl rfl rfl K24 rfl (rfl) ?_
              refine lV (yAssign rfl) rfl rfl ?_
              refine lNil ?_
              refine kThen ?_
              refine kSeq ?_
              refine kRegion rfl ?_
              refine lV (yFieldAddr rfl F29_0) rfl rfl ?_
              refine lV (yLoadA (vs := [_, _, _]) rfl A26 (cOwn 3 rfl rfl)) rfl rfl ?_
              refine lV (yFieldAddr rfl F47_2) rfl rfl ?_
              refine lV (yLoad1 rfl O3 (cOwn 1 rfl rfl)) rfl rfl ?_
              refine lV (yCall rfl (.c rfl (.c rfl .n)) C31 (fun w hw => travelX_any y.l X.m (lkAt X k).2.2 w (hm.eff hw).m)) rfl rfl ?_
              refine same (t := 55) (u := outC (trv X k, 0)) rfl (by rw [travelE_look hM hkl]) ?_
              refine lV (yMove rfl) rfl rfl ?_
              refine lV (yExtract rfl rfl) rfl rfl ?_
              refine lV (yExtract rfl rfl) rfl rfl ?_
              refine lE rfl ?_
              refine eAlloc Z24 fun n11 => ?_
              refine lE rfl ?_
              refine eStoreL 0 rfl rfl rfl rfl K24 rfl (rfl) ?_
              refine lV (yAssign rfl) rfl rfl ?_
              refine lNil ?_
              refine kThen ?_
              refine kSeq ?_
              refine kRegion rfl ?_
              refine lV (yMove rfl) rfl rfl ?_
              refine lV (yMove rfl) rfl rfl ?_
              refine lV (yNeq rfl rfl) rfl rfl ?_
              refine knownN (t := 60) rfl (fun h => h rfl) ?_
              refine lV (yMove rfl) rfl rfl ?_
              refine lGY rfl rfl rfl (oV (yMove rfl) rfl ?_)
              refine lGY rfl rfl rfl (oV (yNeq rfl rfl) rfl ?_)
              refine knownN (t := 63) rfl (fun h => h rfl) ?_
              refine lV (yPickF rfl rfl) rfl rfl ?_
              refine lV (yMove rfl) rfl rfl ?_
              refine lGY rfl rfl rfl (oV (yMove rfl) rfl ?_)
              refine lGY rfl rfl rfl (oV (yEql rfl rfl) rfl ?_)
              refine knownN (t := 67) rfl (by decide) ?_
              refine lGY rfl rfl rfl (oV (yMove rfl) rfl ?_)
              refine lGN rfl rfl rfl rfl rfl ?_
              refine lGN rfl rfl rfl rfl rfl ?_
              refine lGN rfl rfl rfl rfl rfl ?_
              refine lGN rfl rfl rfl rfl rfl ?_
              refine lGN rfl rfl rfl rfl rfl ?_
              refine lGN rfl rfl rfl rfl rfl ?_
              refine lGN rfl rfl rfl rfl rfl ?_
              refine lGN rfl rfl rfl rfl rfl ?_
              refine lGN rfl rfl rfl rfl rfl ?_
              refine lGU rfl rfl rfl rfl ?_
              refine lGU rfl rfl rfl rfl ?_
              refine lGU rfl rfl rfl rfl ?_
              refine lGU rfl rfl rfl rfl ?_
              refine lGU rfl rfl rfl rfl ?_
              refine lGU rfl rfl rfl rfl ?_
              refine lGU rfl rfl rfl rfl ?_
              refine lGU rfl rfl rfl rfl ?_
              refine lGN rfl rfl rfl rfl rfl ?_
              refine lGN rfl rfl rfl rfl rfl ?_
              refine lGU rfl rfl rfl rfl ?_
              refine lGU rfl rfl rfl rfl ?_
              refine lGU rfl rfl rfl rfl ?_
              refine lGU rfl rfl rfl rfl ?_
              refine lGU rfl rfl rfl rfl ?_
              refine lGN rfl rfl rfl rfl rfl ?_
              refine lGY rfl rfl rfl (oV (yPickF rfl rfl) rfl ?_)
              refine lV (yPickF rfl rfl) rfl rfl ?_
              refine lNil ?_
              refine kThen ?_
              refine kIfF rfl ?_
              refine kSkip ?_
              refine kInN ?_
              refine kThen ?_
              refine kRegion rfl ?_
              refine lV (yAdd rfl rfl (by omega)) rfl rfl ?_
              refine lV (yMove rfl) rfl rfl ?_
              refine lNil ?_
              exact kRoundX (k + 1, true) (⟨by dsimp only; omega, by dsimp only; rw [seenB_succ, decide_eq_true hik, Bool.or_true]⟩) (by dsimp only; omega) rfl (.c rfl (.c rfl .n)) (.c rfl (.c rfl (.c rfl (.c rfl (.c rfl (.c rfl (.c rfl (.c rfl (.c rfl (.c rfl (.c rfl (.c rfl (.c rfl (.c rfl (.c rfl (.c rfl (.c rfl (.c rfl (.c rfl (.c rfl (.c rfl (.c rfl (.c rfl (.c rfl (.c rfl (.c rfl .n)))))))))))))))))))))))))) (.c 3 rfl (.c 3 rfl .n))
          · refine kIfF rfl ?_
            refine kExit ?_
            refine kThenX ?_
            refine kThenX ?_
            refine kInX ?_
            refine kThen ?_
            refine kSeq ?_
            obtain rfl : k = X.looks.length := by omega
            refine kRegion rfl ?_
            refine lV (yMove rfl) rfl rfl ?_
            refine lV (yEql rfl rfl) rfl rfl ?_
            refine knownN (t := 98) rfl (by decide) ?_
            refine lV (yMove rfl) rfl rfl ?_
            refine lGN rfl rfl rfl rfl rfl ?_
            refine lGN rfl rfl rfl rfl rfl ?_
            refine lV (yPickF rfl rfl) rfl rfl ?_
            refine lV (yMove rfl) rfl rfl ?_
            refine lGY rfl rfl rfl (oV (yMove rfl) rfl ?_)
            refine lGY rfl rfl rfl (oV (yEql rfl rfl) rfl ?_)
            refine knownN (t := 105) rfl (by decide) ?_
            refine lGY rfl rfl rfl (oV (yMove rfl) rfl ?_)
            refine lGN rfl rfl rfl rfl rfl ?_
            refine lGY rfl rfl rfl (oV (yPickF rfl rfl) rfl ?_)
            refine lV (yPickF rfl rfl) rfl rfl ?_
            refine lV (yMove rfl) rfl rfl ?_
            refine lGY rfl rfl rfl (oV (yMove rfl) rfl ?_)
            refine lGY rfl rfl rfl (oV (yNeq rfl rfl) rfl ?_)
            refine known (t := 112) rfl (by decide) ?_
            refine lGY rfl rfl rfl (oV (yMove rfl) rfl ?_)
            refine lGY rfl rfl rfl (oV (yLoadA (vs := [_, _]) rfl A24 (cOwn 0 rfl rfl)) rfl ?_)
            refine lGY rfl rfl rfl (oV (yBuild .n (fun w => B24_ w)) rfl ?_)
            refine lGY rfl rfl rfl (oV (yNeAgg rfl rfl G24 (fun w => Q24 w)) rfl ?_)
            refine knownB (t := 116) (c := false) rfl (by simp) ?_
            refine lGY rfl rfl rfl (oV (yPickT rfl rfl) rfl ?_)
            refine lV (yPickF rfl rfl) rfl rfl ?_
            refine lV (yMove rfl) rfl rfl ?_
            refine lGY rfl rfl rfl (oV (yMove rfl) rfl ?_)
            refine lGY rfl rfl rfl (oV (yNeq rfl rfl) rfl ?_)
            refine known (t := 121) rfl (by decide) ?_
            refine lGY rfl rfl rfl (oV (yMove rfl) rfl ?_)
            refine lGY rfl rfl rfl (oV (yMove rfl) rfl ?_)
            refine lGY rfl rfl rfl (oV (yNeq rfl rfl) rfl ?_)
            refine known (t := 124) rfl (by decide) ?_
            refine lGY rfl rfl rfl (oV (yPickT rfl rfl) rfl ?_)
            refine lGY rfl rfl rfl (oV (yMove rfl) rfl ?_)
            refine lGY rfl rfl rfl (oV (yMove rfl) rfl ?_)
            refine lGY rfl rfl rfl (oV (yNeq rfl rfl) rfl ?_)
            refine knownN (t := 128) rfl (fun h => h rfl) ?_
            refine lGY rfl rfl rfl (oV (yPickT rfl rfl) rfl ?_)
            refine lV (yPickF rfl rfl) rfl rfl ?_
            refine lNil ?_
            refine kThen ?_
            refine kIfF rfl ?_
            refine kSkip ?_
            refine kInN ?_
            refine kThen ?_
            refine kRegion rfl ?_
            refine lV (yAdd rfl rfl (by omega)) rfl rfl ?_
            refine lV (yMove rfl) rfl rfl ?_
            refine lNil ?_
            exact kRoundX (a + 1) (by omega) (by omega) rfl (.c rfl .n) (.c rfl (.c rfl (.c rfl (.c rfl (.c rfl (.c rfl (.c rfl (.c rfl (.c rfl (.c rfl (.c rfl .n))))))))))) (.c 1 rfl .n)
      · refine kIfF rfl ?_
        refine kExit ?_
        refine kThenX ?_
        refine kThenX ?_
        refine kInX ?_
        refine kThen ?_
        refine kSeq ?_
        refine kRegion rfl ?_
        refine lV (yCall rfl .n C14 (fun w hw => awake_any w)) rfl rfl ?_
        refine lV (yAssign rfl) rfl rfl ?_
        refine lNil ?_
        refine kThen ?_
        refine kRet ?_
        refine fRet rfl (.t rfl .n) (endRet ?_)
        first | rfl | (simp [packV, *]; done)
end Go.Proofs.Ytiaaidcdoenloaa
