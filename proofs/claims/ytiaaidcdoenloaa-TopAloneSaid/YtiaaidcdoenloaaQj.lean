/-
  Walks: what is valid, by the document; the examples as the statements ask for them.
-/
import Derived.Test.YtiaaidcdoenloaaQi
namespace Go.Proofs.Ytiaaidcdoenloaa
open ZW

set_option maxRecDepth 100000 in
theorem ein_any (n a b : Int) (w : World) : Calls Try.prog 52 [i64 n, i64 a, i64 b].toArray w (Ret w (.bool (decide (a ≤ n ∧ n ≤ b)))) := by
  refine fEnter Try.func52 rfl Try.ntmps52 rfl ?_
  refine kSeq ?_
  refine kRegion rfl ?_
  refine lV (yAssign rfl) rfl rfl ?_
  refine lNil ?_
  refine kThen ?_
  refine kSeq ?_
  refine kRegion rfl ?_
  refine lV (yMove rfl) rfl rfl ?_
  refine lV (yMove rfl) rfl rfl ?_
  refine lV (yLeq rfl rfl) rfl rfl ?_
  refine lV (yMove rfl) rfl rfl ?_
  refine split (t := 10) rfl (fun h10 => ?_) (fun h10 => ?_)
  · refine lGY rfl rfl rfl (oV (yMove rfl) rfl ?_)
    refine lGY rfl rfl rfl (oV (yMove rfl) rfl ?_)
    refine lGY rfl rfl rfl (oV (yLeq rfl rfl) rfl ?_)
    refine lV (yPickT rfl rfl) rfl rfl ?_
    refine lV (yAssign rfl) rfl rfl ?_
    refine lNil ?_
    refine kThen ?_
    refine kRet ?_
    refine fRet rfl (.t rfl .n) (endRet ?_)
    simp [packV, *]
  · refine lGN rfl rfl rfl rfl rfl ?_
    refine lGN rfl rfl rfl rfl rfl ?_
    refine lGN rfl rfl rfl rfl rfl ?_
    refine lV (yPickF rfl rfl) rfl rfl ?_
    refine lV (yAssign rfl) rfl rfl ?_
    refine lNil ?_
    refine kThen ?_
    refine kRet ?_
    refine fRet rfl (.t rfl .n) (endRet ?_)
    simp [packV, *]
set_option maxRecDepth 100000 in
set_option maxHeartbeats 4000000 in
theorem watch_any (y : WLoc) (X : Wat) (w : World) (hm : InW w y X) (hL : X.looks.length ≤ 1000000) (hE : X.errs.length ≤ 1000000) : Calls Try.prog 34 [.agg (watC y X).toArray].toArray w (Ret w (.bool (decide (WatOk X)))) := by
  refine fEnter Try.func34 rfl Try.ntmps34 rfl ?_
  refine kSeq ?_
  refine kRegion rfl ?_
  refine lE rfl ?_
  refine eBoxA rfl fun n1 => ?_
  refine lV (yAssign rfl) rfl rfl ?_
  refine lNil ?_
  refine kThen ?_
  refine kSeq ?_
  refine kSeq ?_
  refine kRegion rfl ?_
  refine lV (yFieldAddr rfl F29_0) rfl rfl ?_
  refine lV (yLoadA (vs := [_, _, _]) rfl A26 (cOwn 0 rfl rfl)) rfl rfl ?_
  refine lV (yCall rfl (.c rfl .n) C68 (fun w hw => rscrew_any y.l X.m w (hm.eff hw).e hE)) rfl rfl ?_
  refine lV (yNot rfl) rfl rfl ?_
  refine lV (yMove rfl) rfl rfl ?_
  refine splitB (t := 9) rfl (fun h9 => ?_) (fun h9 => ?_)
  · refine lGN rfl rfl rfl rfl rfl ?_
    refine lGN rfl rfl rfl rfl rfl ?_
    refine lGN rfl rfl rfl rfl rfl ?_
    refine lGN rfl rfl rfl rfl rfl ?_
    refine lV (yPickT rfl rfl) rfl rfl ?_
    refine lV (yMove rfl) rfl rfl ?_
    refine lGN rfl rfl rfl rfl rfl ?_
    refine lGN rfl rfl rfl rfl rfl ?_
    refine lGN rfl rfl rfl rfl rfl ?_
    refine lGN rfl rfl rfl rfl rfl ?_
    refine lV (yPickT rfl rfl) rfl rfl ?_
    refine lV (yMove rfl) rfl rfl ?_
    refine lGN rfl rfl rfl rfl rfl ?_
    refine lGN rfl rfl rfl rfl rfl ?_
    refine lGN rfl rfl rfl rfl rfl ?_
    refine lGN rfl rfl rfl rfl rfl ?_
    refine lGN rfl rfl rfl rfl rfl ?_
    refine lV (yPickT rfl rfl) rfl rfl ?_
    refine lV (yMove rfl) rfl rfl ?_
    refine lGN rfl rfl rfl rfl rfl ?_
    refine lGN rfl rfl rfl rfl rfl ?_
    refine lGN rfl rfl rfl rfl rfl ?_
    refine lGN rfl rfl rfl rfl rfl ?_
    refine lGN rfl rfl rfl rfl rfl ?_
    refine lV (yPickT rfl rfl) rfl rfl ?_
    refine lV (yMove rfl) rfl rfl ?_
    refine lGN rfl rfl rfl rfl rfl ?_
    refine lGN rfl rfl rfl rfl rfl ?_
    refine lGN rfl rfl rfl rfl rfl ?_
    refine lGN rfl rfl rfl rfl rfl ?_
    refine lV (yPickT rfl rfl) rfl rfl ?_
    refine lNil ?_
    refine kThen ?_
    refine kIfT rfl ?_
    refine kSeq ?_
    refine kRegion rfl ?_
    refine lV (yAssign rfl) rfl rfl ?_
    refine lNil ?_
    refine kThen ?_
    refine kRet ?_
    refine kThenR ?_
    refine fRet rfl (.t rfl .n) (endRet ?_)
    simp only [packV]; rw [decide_eq_false fun hs : WatOk X => notT h9 hs.s]
  · refine lGY rfl rfl rfl (oV (yFieldAddr rfl F29_1) rfl ?_)
    refine lGY rfl rfl rfl (oV (yLoad1 rfl O3 (cOwn 0 rfl rfl)) rfl ?_)
    refine lGY rfl rfl rfl (oV (yCall rfl (.c rfl (.c rfl (.c rfl .n))) C52 (fun w hw => ein_any _ _ _ w)) rfl ?_)
    refine lGY rfl rfl rfl (oV (yNot rfl) rfl ?_)
    refine lV (yPickF rfl rfl) rfl rfl ?_
    refine lV (yMove rfl) rfl rfl ?_
    refine splitB (t := 15) rfl (fun h15 => ?_) (fun h15 => ?_)
    · refine lGN rfl rfl rfl rfl rfl ?_
      refine lGN rfl rfl rfl rfl rfl ?_
      refine lGN rfl rfl rfl rfl rfl ?_
      refine lGN rfl rfl rfl rfl rfl ?_
      refine lV (yPickT rfl rfl) rfl rfl ?_
      refine lV (yMove rfl) rfl rfl ?_
      refine lGN rfl rfl rfl rfl rfl ?_
      refine lGN rfl rfl rfl rfl rfl ?_
      refine lGN rfl rfl rfl rfl rfl ?_
      refine lGN rfl rfl rfl rfl rfl ?_
      refine lGN rfl rfl rfl rfl rfl ?_
      refine lV (yPickT rfl rfl) rfl rfl ?_
      refine lV (yMove rfl) rfl rfl ?_
      refine lGN rfl rfl rfl rfl rfl ?_
      refine lGN rfl rfl rfl rfl rfl ?_
      refine lGN rfl rfl rfl rfl rfl ?_
      refine lGN rfl rfl rfl rfl rfl ?_
      refine lGN rfl rfl rfl rfl rfl ?_
      refine lV (yPickT rfl rfl) rfl rfl ?_
      refine lV (yMove rfl) rfl rfl ?_
      refine lGN rfl rfl rfl rfl rfl ?_
      refine lGN rfl rfl rfl rfl rfl ?_
      refine lGN rfl rfl rfl rfl rfl ?_
      refine lGN rfl rfl rfl rfl rfl ?_
      refine lV (yPickT rfl rfl) rfl rfl ?_
      refine lNil ?_
      refine kThen ?_
      refine kIfT rfl ?_
      refine kSeq ?_
      refine kRegion rfl ?_
      refine lV (yAssign rfl) rfl rfl ?_
      refine lNil ?_
      refine kThen ?_
      refine kRet ?_
      refine kThenR ?_
      refine fRet rfl (.t rfl .n) (endRet ?_)
      simp only [packV]; rw [decide_eq_false fun hs : WatOk X => notT h15 hs.i]
    · refine lGY rfl rfl rfl (oV (yFieldAddr rfl F29_2) rfl ?_)
      refine lGY rfl rfl rfl (oV (yLoad1 rfl O3 (cOwn 0 rfl rfl)) rfl ?_)
      refine lGY rfl rfl rfl (oV (yCall rfl (.c rfl (.c rfl (.c rfl .n))) C52 (fun w hw => ein_any _ _ _ w)) rfl ?_)
      refine lGY rfl rfl rfl (oV (yNot rfl) rfl ?_)
      refine lV (yPickF rfl rfl) rfl rfl ?_
      refine lV (yMove rfl) rfl rfl ?_
      refine splitB (t := 21) rfl (fun h21 => ?_) (fun h21 => ?_)
      · refine lGN rfl rfl rfl rfl rfl ?_
        refine lGN rfl rfl rfl rfl rfl ?_
        refine lGN rfl rfl rfl rfl rfl ?_
        refine lGN rfl rfl rfl rfl rfl ?_
        refine lGN rfl rfl rfl rfl rfl ?_
        refine lV (yPickT rfl rfl) rfl rfl ?_
        refine lV (yMove rfl) rfl rfl ?_
        refine lGN rfl rfl rfl rfl rfl ?_
        refine lGN rfl rfl rfl rfl rfl ?_
        refine lGN rfl rfl rfl rfl rfl ?_
        refine lGN rfl rfl rfl rfl rfl ?_
        refine lGN rfl rfl rfl rfl rfl ?_
        refine lV (yPickT rfl rfl) rfl rfl ?_
        refine lV (yMove rfl) rfl rfl ?_
        refine lGN rfl rfl rfl rfl rfl ?_
        refine lGN rfl rfl rfl rfl rfl ?_
        refine lGN rfl rfl rfl rfl rfl ?_
        refine lGN rfl rfl rfl rfl rfl ?_
        refine lV (yPickT rfl rfl) rfl rfl ?_
        refine lNil ?_
        refine kThen ?_
        refine kIfT rfl ?_
        refine kSeq ?_
        refine kRegion rfl ?_
        refine lV (yAssign rfl) rfl rfl ?_
        refine lNil ?_
        refine kThen ?_
        refine kRet ?_
        refine kThenR ?_
        refine fRet rfl (.t rfl .n) (endRet ?_)
        simp only [packV]; rw [decide_eq_false fun hs : WatOk X => notT h21 hs.e]
      · refine lGY rfl rfl rfl (oV (yFieldAddr rfl F29_3) rfl ?_)
        refine lGY rfl rfl rfl (oV (yFieldAddr rfl F24_0) rfl ?_)
        refine lGY rfl rfl rfl (oV (yLoad1 rfl O3 (cOwn 0 rfl rfl)) rfl ?_)
        refine lGY rfl rfl rfl (oV (yCall rfl (.c rfl (.c rfl (.c rfl .n))) C52 (fun w hw => ein_any _ _ _ w)) rfl ?_)
        refine lGY rfl rfl rfl (oV (yNot rfl) rfl ?_)
        refine lV (yPickF rfl rfl) rfl rfl ?_
        refine lV (yMove rfl) rfl rfl ?_
        refine splitB (t := 28) rfl (fun h28 => ?_) (fun h28 => ?_)
        · refine lGN rfl rfl rfl rfl rfl ?_
          refine lGN rfl rfl rfl rfl rfl ?_
          refine lGN rfl rfl rfl rfl rfl ?_
          refine lGN rfl rfl rfl rfl rfl ?_
          refine lGN rfl rfl rfl rfl rfl ?_
          refine lV (yPickT rfl rfl) rfl rfl ?_
          refine lV (yMove rfl) rfl rfl ?_
          refine lGN rfl rfl rfl rfl rfl ?_
          refine lGN rfl rfl rfl rfl rfl ?_
          refine lGN rfl rfl rfl rfl rfl ?_
          refine lGN rfl rfl rfl rfl rfl ?_
          refine lV (yPickT rfl rfl) rfl rfl ?_
          refine lNil ?_
          refine kThen ?_
          refine kIfT rfl ?_
          refine kSeq ?_
          refine kRegion rfl ?_
          refine lV (yAssign rfl) rfl rfl ?_
          refine lNil ?_
          refine kThen ?_
          refine kRet ?_
          refine kThenR ?_
          refine fRet rfl (.t rfl .n) (endRet ?_)
          simp only [packV]; rw [decide_eq_false fun hs : WatOk X => notT h28 hs.h]
        · refine lGY rfl rfl rfl (oV (yFieldAddr rfl F29_3) rfl ?_)
          refine lGY rfl rfl rfl (oV (yFieldAddr rfl F24_1) rfl ?_)
          refine lGY rfl rfl rfl (oV (yLoad1 rfl O3 (cOwn 0 rfl rfl)) rfl ?_)
          refine lGY rfl rfl rfl (oV (yCall rfl (.c rfl (.c rfl (.c rfl .n))) C52 (fun w hw => ein_any _ _ _ w)) rfl ?_)
          refine lGY rfl rfl rfl (oV (yNot rfl) rfl ?_)
          refine lV (yPickF rfl rfl) rfl rfl ?_
          refine lV (yMove rfl) rfl rfl ?_
          refine splitB (t := 35) rfl (fun h35 => ?_) (fun h35 => ?_)
          · refine lGN rfl rfl rfl rfl rfl ?_
            refine lGN rfl rfl rfl rfl rfl ?_
            refine lGN rfl rfl rfl rfl rfl ?_
            refine lGN rfl rfl rfl rfl rfl ?_
            refine lV (yPickT rfl rfl) rfl rfl ?_
            refine lNil ?_
            refine kThen ?_
            refine kIfT rfl ?_
            refine kSeq ?_
            refine kRegion rfl ?_
            refine lV (yAssign rfl) rfl rfl ?_
            refine lNil ?_
            refine kThen ?_
            refine kRet ?_
            refine kThenR ?_
            refine fRet rfl (.t rfl .n) (endRet ?_)
            simp only [packV]; rw [decide_eq_false fun hs : WatOk X => notT h35 hs.k]
          · refine lGY rfl rfl rfl (oV (yFieldAddr rfl F29_4) rfl ?_)
            refine lGY rfl rfl rfl (oV (yLoad1 rfl O27 (cOwn 0 rfl rfl)) rfl ?_)
            refine lGY rfl rfl rfl (oV (yLen rfl S27) rfl ?_)
            refine lGY rfl rfl rfl (oV (yGtr rfl rfl) rfl ?_)
            refine lV (yPickF rfl rfl) rfl rfl ?_
            refine lNil ?_
            refine kThen ?_
            refine split (t := 40) rfl (fun h40 => ?_) (fun h40 => ?_)
            · refine kIfT rfl ?_
              refine kSeq ?_
              refine kRegion rfl ?_
              refine lV (yAssign rfl) rfl rfl ?_
              refine lNil ?_
              refine kThen ?_
              refine kRet ?_
              refine kThenR ?_
              refine fRet rfl (.t rfl .n) (endRet ?_)
              simp only [packV]; rw [decide_eq_false fun hs : WatOk X => by have := hs.n; omega]
            · refine kIfF rfl ?_
              refine kSkip ?_
              refine kThen ?_
              refine kSeq ?_
              refine kSeq ?_
              refine kRegion rfl ?_
              refine lV (yAssign rfl) rfl rfl ?_
              refine lNil ?_
              refine kThen ?_
              refine kBlock ?_
              refine kLoopX (ι := Nat) (fun i => i ≤ X.looks.length ∧ ∀ j, j < i → lookOk X (X.looks.getD j look0)) (fun i => [(3, i64 (i : Nat))]) [(0, _), (1, _), (5, _), (6, _), (7, _), (8, _), (9, _), (10, _), (11, _), (12, _), (13, _), (14, _), (15, _), (16, _), (17, _), (18, _), (19, _), (20, _), (21, _), (22, _), (23, _), (24, _), (25, _), (26, _), (27, _), (28, _), (29, _), (30, _), (31, _), (32, _), (33, _), (34, _), (35, _), (36, _), (37, _), (38, _), (39, _), (40, _)] (fun i => []) (fun i => []) [(n1, _)] (fun i => X.looks.length - i) 0 (⟨Nat.zero_le _, fun j hj => absurd hj (by omega)⟩) rfl (.c rfl .n) (.c rfl (.c rfl (.c rfl (.c rfl (.c rfl (.c rfl (.c rfl (.c rfl (.c rfl (.c rfl (.c rfl (.c rfl (.c rfl (.c rfl (.c rfl (.c rfl (.c rfl (.c rfl (.c rfl (.c rfl (.c rfl (.c rfl (.c rfl (.c rfl (.c rfl (.c rfl (.c rfl (.c rfl (.c rfl (.c rfl (.c rfl (.c rfl (.c rfl (.c rfl (.c rfl (.c rfl (.c rfl (.c rfl .n)))))))))))))))))))))))))))))))))))))) (.c 0 rfl .n) ?_
              rintro i ⟨hi, hok⟩
              refine kSeq ?_
              refine kSeq ?_
              refine kRegion rfl ?_
              refine lV (yMove rfl) rfl rfl ?_
              refine lV (yFieldAddr rfl F29_4) rfl rfl ?_
              refine lV (yLoad1 rfl O27 (cOwn 0 rfl rfl)) rfl rfl ?_
              refine lV (yLen rfl S27) rfl rfl ?_
              refine lV (yLss rfl rfl) rfl rfl ?_
              refine lNil ?_
              refine kThen ?_
              refine split (t := 45) rfl (fun h45 => ?_) (fun h45 => ?_)
              · refine kIfT rfl ?_
                refine kSkip ?_
                refine kThen ?_
                refine kSeq ?_
                refine kBlock ?_
                refine kSeq ?_
                refine kRegion rfl ?_
                refine lV (yFieldAddr rfl F29_4) rfl rfl ?_
                refine lV (yLoad1 rfl O27 (cOwn 0 rfl rfl)) rfl rfl ?_
                refine lV (yMove rfl) rfl rfl ?_
                refine lV (yIndexS  rfl rfl S27 (hm.l.r) ((by omega))) rfl rfl ?_
                refine lV (yLoadA (vs := [_, _, _]) rfl A47 (cSl0 (hm.l.r) ((by omega)) rfl)) rfl rfl ?_
                refine lE rfl ?_
                refine eAlloc Z47 fun n4 => ?_
                refine lE rfl ?_
                refine eStoreL 0 rfl rfl rfl rfl K47 rfl (rfl) ?_
                refine lNil ?_
                refine kThen ?_
                refine kSeq ?_
                refine kRegion rfl ?_
                refine lV (yFieldAddr rfl F47_0) rfl rfl ?_
                refine lV (yLoad1 rfl O3 (cOwn 0 rfl rfl)) rfl rfl ?_
                refine lV (yFieldAddr rfl F29_2) rfl rfl ?_
                refine lV (yLoad1 rfl O3 (cOwn 1 rfl rfl)) rfl rfl ?_
                refine lV (ySub rfl rfl (by have := notF h15; have := notF h21; omega)) rfl rfl ?_
                refine lV (yCall rfl (.c rfl (.c rfl (.c rfl .n))) C52 (fun w hw => ein_any _ _ _ w)) rfl rfl ?_
                refine lV (yNot rfl) rfl rfl ?_
                refine lV (yMove rfl) rfl rfl ?_
                refine splitB (t := 60) rfl (fun h60 => ?_) (fun h60 => ?_)
                · refine lGN rfl rfl rfl rfl rfl ?_
                  refine lGN rfl rfl rfl rfl rfl ?_
                  refine lGN rfl rfl rfl rfl rfl ?_
                  refine lGN rfl rfl rfl rfl rfl ?_
                  refine lGN rfl rfl rfl rfl rfl ?_
                  refine lGN rfl rfl rfl rfl rfl ?_
                  refine lGN rfl rfl rfl rfl rfl ?_
                  refine lV (yPickT rfl rfl) rfl rfl ?_
                  refine lV (yMove rfl) rfl rfl ?_
                  refine lGN rfl rfl rfl rfl rfl ?_
                  refine lGN rfl rfl rfl rfl rfl ?_
                  refine lGN rfl rfl rfl rfl rfl ?_
                  refine lGN rfl rfl rfl rfl rfl ?_
                  refine lGN rfl rfl rfl rfl rfl ?_
                  refine lGN rfl rfl rfl rfl rfl ?_
                  refine lV (yPickT rfl rfl) rfl rfl ?_
                  refine lNil ?_
                  refine kThen ?_
                  refine kIfT rfl ?_
                  refine kSeq ?_
                  refine kRegion rfl ?_
                  refine lV (yAssign rfl) rfl rfl ?_
                  refine lNil ?_
                  refine kThen ?_
                  refine kRet ?_
                  refine kInR ?_
                  refine kThenR ?_
                  refine kThenR ?_
                  refine kInR ?_
                  refine kThenR ?_
                  refine fRet rfl (.t rfl .n) (endRet ?_)
                  simp only [packV]; rw [decide_eq_false fun hs : WatOk X => notT h60 (hs.l _ (getD_mem (i := i) (by omega) look0)).2.1]
                · refine lGY rfl rfl rfl (oV (yFieldAddr rfl F47_1) rfl ?_)
                  refine lGY rfl rfl rfl (oV (yLoad1 rfl O3 (cOwn 0 rfl rfl)) rfl ?_)
                  refine lGY rfl rfl rfl (oV (yFieldAddr rfl F29_1) rfl ?_)
                  refine lGY rfl rfl rfl (oV (yLoad1 rfl O3 (cOwn 1 rfl rfl)) rfl ?_)
                  refine lGY rfl rfl rfl (oV (ySub rfl rfl (by have := notF h15; have := notF h21; omega)) rfl ?_)
                  refine lGY rfl rfl rfl (oV (yCall rfl (.c rfl (.c rfl (.c rfl .n))) C52 (fun w hw => ein_any _ _ _ w)) rfl ?_)
                  refine lGY rfl rfl rfl (oV (yNot rfl) rfl ?_)
                  refine lV (yPickF rfl rfl) rfl rfl ?_
                  refine lV (yMove rfl) rfl rfl ?_
                  refine splitB (t := 69) rfl (fun h69 => ?_) (fun h69 => ?_)
                  · refine lGN rfl rfl rfl rfl rfl ?_
                    refine lGN rfl rfl rfl rfl rfl ?_
                    refine lGN rfl rfl rfl rfl rfl ?_
                    refine lGN rfl rfl rfl rfl rfl ?_
                    refine lGN rfl rfl rfl rfl rfl ?_
                    refine lGN rfl rfl rfl rfl rfl ?_
                    refine lV (yPickT rfl rfl) rfl rfl ?_
                    refine lNil ?_
                    refine kThen ?_
                    refine kIfT rfl ?_
                    refine kSeq ?_
                    refine kRegion rfl ?_
                    refine lV (yAssign rfl) rfl rfl ?_
                    refine lNil ?_
                    refine kThen ?_
                    refine kRet ?_
                    refine kInR ?_
                    refine kThenR ?_
                    refine kThenR ?_
                    refine kInR ?_
                    refine kThenR ?_
                    refine fRet rfl (.t rfl .n) (endRet ?_)
                    simp only [packV]; rw [decide_eq_false fun hs : WatOk X => notT h69 (hs.l _ (getD_mem (i := i) (by omega) look0)).2.2]
                  · refine lGY rfl rfl rfl (oV (yFieldAddr rfl F29_0) rfl ?_)
                    refine lGY rfl rfl rfl (oV (yLoadA (vs := [_, _, _]) rfl A26 (cOwn 1 rfl rfl)) rfl ?_)
                    refine lGY rfl rfl rfl (oV (yFieldAddr rfl F47_2) rfl ?_)
                    refine lGY rfl rfl rfl (oV (yLoad1 rfl O3 (cOwn 0 rfl rfl)) rfl ?_)
                    refine lGY rfl rfl rfl (oV (yCall rfl (.c rfl (.c rfl .n)) C69 (fun w hw => rreading_any y.l X.m _ w hE)) rfl ?_)
                    refine lGY rfl rfl rfl (oV (yNot rfl) rfl ?_)
                    refine lV (yPickF rfl rfl) rfl rfl ?_
                    refine lNil ?_
                    refine kThen ?_
                    refine splitB (t := 76) rfl (fun h76 => ?_) (fun h76 => ?_)
                    · refine kIfT rfl ?_
                      refine kSeq ?_
                      refine kRegion rfl ?_
                      refine lV (yAssign rfl) rfl rfl ?_
                      refine lNil ?_
                      refine kThen ?_
                      refine kRet ?_
                      refine kInR ?_
                      refine kThenR ?_
                      refine kThenR ?_
                      refine kInR ?_
                      refine kThenR ?_
                      refine fRet rfl (.t rfl .n) (endRet ?_)
                      simp only [packV]; rw [decide_eq_false fun hs : WatOk X => notT h76 (hs.l _ (getD_mem (i := i) (by omega) look0)).1]
                    · refine kIfF rfl ?_
                      refine kSkip ?_
                      refine kInN ?_
                      refine kThen ?_
                      refine kRegion rfl ?_
                      refine lV (yMove rfl) rfl rfl ?_
                      refine lV (yAdd rfl rfl (by omega)) rfl rfl ?_
                      refine lV (yAssign rfl) rfl rfl ?_
                      refine lNil ?_
                      exact kRoundX (i + 1) (⟨by omega, fun j hj => by rcases Nat.lt_or_ge j i with h | h; (· exact hok j h); (obtain rfl : j = i := (by omega)); exact ⟨notF h76, notF h60, notF h69⟩⟩) (by omega) rfl (.c rfl .n) (.c rfl (.c rfl (.c rfl (.c rfl (.c rfl (.c rfl (.c rfl (.c rfl (.c rfl (.c rfl (.c rfl (.c rfl (.c rfl (.c rfl (.c rfl (.c rfl (.c rfl (.c rfl (.c rfl (.c rfl (.c rfl (.c rfl (.c rfl (.c rfl (.c rfl (.c rfl (.c rfl (.c rfl (.c rfl (.c rfl (.c rfl (.c rfl (.c rfl (.c rfl (.c rfl (.c rfl (.c rfl (.c rfl .n)))))))))))))))))))))))))))))))))))))) (.c 1 rfl .n)
              · refine kIfF rfl ?_
                refine kExit ?_
                refine kThenX ?_
                refine kThenX ?_
                refine kInX ?_
                refine kThen ?_
                refine kSeq ?_
                refine kRegion rfl ?_
                refine lV (yAssign rfl) rfl rfl ?_
                refine lNil ?_
                refine kThen ?_
                refine kRet ?_
                refine fRet rfl (.t rfl .n) (endRet ?_)
                simp only [packV]
                rw [decide_eq_true (⟨notF h9, notF h15, notF h21, notF h28, notF h35, by omega, fun x hx => by
                  obtain ⟨j, hj, rfl⟩ := List.mem_iff_getElem.1 hx
                  have := hok j (by omega)
                  rwa [← List.getElem_eq_getD (h := hj)] at this⟩ : WatOk X)]

set_option maxRecDepth 100000 in
theorem spanL_any (lo hi : Int) (w : World) : Calls Try.prog 35 [i64 lo, i64 hi].toArray w (Ret w (.agg [i64 lo, i64 hi].toArray)) := by
  refine fEnter Try.func35 rfl Try.ntmps35 rfl ?_
  refine kSeq ?_
  refine kRegion rfl ?_
  refine lE rfl ?_
  refine eAlloc Z24 fun n4 => ?_
  refine lNil ?_
  refine kThen ?_
  refine kSeq ?_
  refine kRegion rfl ?_
  refine lV (yMove rfl) rfl rfl ?_
  refine lV (yMove rfl) rfl rfl ?_
  refine lV (yBuild (.c rfl (.c rfl .n)) (fun w => B24_0_1 w)) rfl rfl ?_
  refine lE rfl ?_
  refine eStoreL 0 rfl rfl rfl rfl K24 rfl (rfl) ?_
  refine lNil ?_
  refine kThen ?_
  refine kRet ?_
  refine fRet rfl (.cA (us := [_, _]) rfl A24 (cOwn 0 rfl rfl) .n) (endRet ?_)
  rfl
set_option maxRecDepth 100000 in
theorem inside_any (lo hi n : Int) (w : World) : Calls Try.prog 32 [.agg [i64 lo, i64 hi].toArray, i64 n].toArray w (Ret w (.bool (decide (lo ≤ n ∧ n ≤ hi)))) := by
  refine fEnter Try.func32 rfl Try.ntmps32 rfl ?_
  refine kSeq ?_
  refine kRegion rfl ?_
  refine lE rfl ?_
  refine eBoxA rfl fun n2 => ?_
  refine lV (yAssign rfl) rfl rfl ?_
  refine lNil ?_
  refine kThen ?_
  refine kSeq ?_
  refine kRegion rfl ?_
  refine lV (yFieldAddr rfl F24_0) rfl rfl ?_
  refine lV (yLoad1 rfl O3 (cOwn 0 rfl rfl)) rfl rfl ?_
  refine lV (yMove rfl) rfl rfl ?_
  refine lV (yLeq rfl rfl) rfl rfl ?_
  refine lV (yMove rfl) rfl rfl ?_
  refine split (t := 9) rfl (fun h9 => ?_) (fun h9 => ?_)
  · refine lGY rfl rfl rfl (oV (yMove rfl) rfl ?_)
    refine lGY rfl rfl rfl (oV (yFieldAddr rfl F24_1) rfl ?_)
    refine lGY rfl rfl rfl (oV (yLoad1 rfl O3 (cOwn 0 rfl rfl)) rfl ?_)
    refine lGY rfl rfl rfl (oV (yLeq rfl rfl) rfl ?_)
    refine lV (yPickT rfl rfl) rfl rfl ?_
    refine lV (yAssign rfl) rfl rfl ?_
    refine lNil ?_
    refine kThen ?_
    refine kRet ?_
    refine fRet rfl (.t rfl .n) (endRet ?_)
    simp [packV, *]
  · refine lGN rfl rfl rfl rfl rfl ?_
    refine lGN rfl rfl rfl rfl rfl ?_
    refine lGN rfl rfl rfl rfl rfl ?_
    refine lGN rfl rfl rfl rfl rfl ?_
    refine lV (yPickF rfl rfl) rfl rfl ?_
    refine lV (yAssign rfl) rfl rfl ?_
    refine lNil ?_
    refine kThen ?_
    refine kRet ?_
    refine fRet rfl (.t rfl .n) (endRet ?_)
    simp [packV, *]
/-- Far more than there can be, or more than a statement goes through. -/
def Far (X : Wat) (most : Nat) : Prop := 40 < X.looks.length ∨ 100 < X.errs.length ∨ most < X.looks.length ∧ WatOk X
instance (X : Wat) (most : Nat) : Decidable (Far X most) := inferInstanceAs (Decidable (_ ∨ _))
set_option maxRecDepth 100000 in
theorem farw_any (y : WLoc) (X : Wat) (most : Nat) (w : World) (hm : InW w y X) : Calls Try.prog 13 [.agg (watC y X).toArray, i64 (most : Nat)].toArray w (Ret w (.bool (decide (Far X most)))) := by
  refine fEnter Try.func13 rfl Try.ntmps13 rfl ?_
  refine kSeq ?_
  refine kRegion rfl ?_
  refine lE rfl ?_
  refine eBoxA rfl fun n2 => ?_
  refine lV (yAssign rfl) rfl rfl ?_
  refine lNil ?_
  refine kThen ?_
  refine kSeq ?_
  refine kRegion rfl ?_
  refine lV (yFieldAddr rfl F29_4) rfl rfl ?_
  refine lV (yLoad1 rfl O27 (cOwn 0 rfl rfl)) rfl rfl ?_
  refine lV (yLen rfl S27) rfl rfl ?_
  refine lV (yGtr rfl rfl) rfl rfl ?_
  refine lV (yMove rfl) rfl rfl ?_
  refine split (t := 9) rfl (fun h9 => ?_) (fun h9 => ?_)
  · refine lGN rfl rfl rfl rfl rfl ?_
    refine lGN rfl rfl rfl rfl rfl ?_
    refine lGN rfl rfl rfl rfl rfl ?_
    refine lGN rfl rfl rfl rfl rfl ?_
    refine lGN rfl rfl rfl rfl rfl ?_
    refine lV (yPickT rfl rfl) rfl rfl ?_
    refine lV (yMove rfl) rfl rfl ?_
    refine lGN rfl rfl rfl rfl rfl ?_
    refine lGN rfl rfl rfl rfl rfl ?_
    refine lGN rfl rfl rfl rfl rfl ?_
    refine lGN rfl rfl rfl rfl rfl ?_
    refine lGN rfl rfl rfl rfl rfl ?_
    refine lGN rfl rfl rfl rfl rfl ?_
    refine lGU rfl rfl rfl rfl ?_
    refine lGU rfl rfl rfl rfl ?_
    refine lGN rfl rfl rfl rfl rfl ?_
    refine lV (yPickT rfl rfl) rfl rfl ?_
    refine lV (yAssign rfl) rfl rfl ?_
    refine lNil ?_
    refine kThen ?_
    refine kRet ?_
    refine fRet rfl (.t rfl .n) (endRet ?_)
    simp only [packV]; rw [decide_eq_true (show Far X most from .inl (by omega))]
  · refine lGY rfl rfl rfl (oV (yFieldAddr rfl F29_0) rfl ?_)
    refine lGY rfl rfl rfl (oV (yFieldAddr rfl F26_0) rfl ?_)
    refine lGY rfl rfl rfl (oV (yLoad1 rfl O22 (cOwn 0 rfl rfl)) rfl ?_)
    refine lGY rfl rfl rfl (oV (yLen rfl S22) rfl ?_)
    refine lGY rfl rfl rfl (oV (yGtr rfl rfl) rfl ?_)
    refine lV (yPickF rfl rfl) rfl rfl ?_
    refine lV (yMove rfl) rfl rfl ?_
    refine split (t := 16) rfl (fun h16 => ?_) (fun h16 => ?_)
    · refine lGN rfl rfl rfl rfl rfl ?_
      refine lGN rfl rfl rfl rfl rfl ?_
      refine lGN rfl rfl rfl rfl rfl ?_
      refine lGN rfl rfl rfl rfl rfl ?_
      refine lGN rfl rfl rfl rfl rfl ?_
      refine lGN rfl rfl rfl rfl rfl ?_
      refine lGU rfl rfl rfl rfl ?_
      refine lGU rfl rfl rfl rfl ?_
      refine lGN rfl rfl rfl rfl rfl ?_
      refine lV (yPickT rfl rfl) rfl rfl ?_
      refine lV (yAssign rfl) rfl rfl ?_
      refine lNil ?_
      refine kThen ?_
      refine kRet ?_
      refine fRet rfl (.t rfl .n) (endRet ?_)
      simp only [packV]; rw [decide_eq_true (show Far X most from .inr (.inl (by omega)))]
    · refine lGY rfl rfl rfl (oV (yFieldAddr rfl F29_4) rfl ?_)
      refine lGY rfl rfl rfl (oV (yLoad1 rfl O27 (cOwn 0 rfl rfl)) rfl ?_)
      refine lGY rfl rfl rfl (oV (yLen rfl S27) rfl ?_)
      refine lGY rfl rfl rfl (oV (yMove rfl) rfl ?_)
      refine lGY rfl rfl rfl (oV (yGtr rfl rfl) rfl ?_)
      refine lGY rfl rfl rfl (oV (yMove rfl) rfl ?_)
      refine split (t := 22) rfl (fun h22 => ?_) (fun h22 => ?_)
      · refine lGY rfl rfl rfl (oV (yLoadA (vs := [_, _, _, _, _, _, _, _]) rfl A29 (cOwn 0 rfl rfl)) rfl ?_)
        refine lGY rfl rfl rfl (oV (yCall rfl (.c rfl .n) C34 (fun w hw => watch_any y X w (hm.eff hw) (by omega) (by omega))) rfl ?_)
        refine lGY rfl rfl rfl (oV (yPickT rfl rfl) rfl ?_)
        refine lV (yPickF rfl rfl) rfl rfl ?_
        refine lV (yAssign rfl) rfl rfl ?_
        refine lNil ?_
        refine kThen ?_
        refine kRet ?_
        refine fRet rfl (.t rfl .n) (endRet ?_)
        simp only [packV]; congr 1; exact decide_eq_decide.2 ⟨fun h => .inr (.inr ⟨by omega, h⟩), fun h => by rcases h with h | h | h; (· omega); (· omega); exact h.2⟩
      · refine lGN rfl rfl rfl rfl rfl ?_
        refine lGN rfl rfl rfl rfl rfl ?_
        refine lGY rfl rfl rfl (oV (yPickF rfl rfl) rfl ?_)
        refine lV (yPickF rfl rfl) rfl rfl ?_
        refine lV (yAssign rfl) rfl rfl ?_
        refine lNil ?_
        refine kThen ?_
        refine kRet ?_
        refine fRet rfl (.t rfl .n) (endRet ?_)
        simp only [packV]; rw [decide_eq_false fun h : Far X most => by rcases h with h | h | h; (· omega); (· omega); (have := h.1; omega)]

/-! ### The examples -/
abbrev errs4 : List Value := [i64 (-2), i64 2, i64 0, i64 5, i64 1, i64 1, i64 (-4), i64 0]
abbrev looks5 : List Value := [i64 0, i64 0, i64 500, i64 1, i64 0, i64 512, i64 0, i64 1, i64 1200, i64 1, i64 1, i64 1213, i64 2, i64 1, i64 1203]
abbrev rowK (x : Int × Int × Int) : List Value := [i64 x.1, i64 x.2.1, i64 x.2.2]
theorem rowsK_len (l : List (Int × Int × Int)) : ∀ x ∈ l.map rowK, x.length = 3 := by
  intro x hx; obtain ⟨y, _, rfl⟩ := List.mem_map.1 hx; rfl
theorem rowsK_one (l : List (Int × Int × Int)) : ∀ x ∈ l.map rowK, ∀ u ∈ x, u.oneCell' = true := by
  intro x hx u hu; obtain ⟨y, _, rfl⟩ := List.mem_map.1 hx
  simp only [rowK, List.mem_cons, List.not_mem_nil, or_false] at hu
  rcases hu with rfl | rfl | rfl <;> rfl
abbrev locW (e l : Nat) : WLoc := ⟨some ⟨e, 0, none⟩, 4, some ⟨l, 0, none⟩, 5⟩
theorem sam_in {w : World} {e l : Nat} {h : Int × Int} (he : w.heap[e]? = some (blk errs4 24)) (hl : w.heap[l]? = some (blk looks5 47)) : InW w (locW e l) (samOf looksV h) :=
  ⟨sleRows (f := rowE) (fun _ => rfl) (0, 0) [(-2, 2), (0, 5), (1, 1), (-4, 0)] rfl he, sleRows (f := rowK) (fun _ => rfl) look0 looksV rfl hl⟩
set_option maxRecDepth 100000 in
theorem sample_any (w : World) : Calls Try.prog 45 [].toArray w
    (RetX w (fun _ : Nat × Nat => True) (fun x => .agg (watC (locW x.1 x.2) sam).toArray) (fun _ => []) (fun x => [(x.1, blk errs4 24), (x.2, blk looks5 47)])) := by
  refine fEnter Try.func45 rfl Try.ntmps45 rfl ?_
  refine kSeq ?_
  refine kRegion rfl ?_
  refine lE rfl ?_
  refine eAlloc Z29 fun n0 => ?_
  refine lNil ?_
  refine kThen ?_
  refine kSeq ?_
  refine kRegion rfl ?_
  refine lV (yCall rfl (.c rfl (.c rfl .n)) C35 (fun w hw => spanL_any _ _ w)) rfl rfl ?_
  refine lV (yCall rfl (.c rfl (.c rfl .n)) C35 (fun w hw => spanL_any _ _ w)) rfl rfl ?_
  refine lV (yCall rfl (.c rfl (.c rfl .n)) C35 (fun w hw => spanL_any _ _ w)) rfl rfl ?_
  refine lV (yCall rfl (.c rfl (.c rfl .n)) C35 (fun w hw => spanL_any _ _ w)) rfl rfl ?_
  refine lE rfl ?_
  refine eBuildSlice (.c rfl (.c rfl (.c rfl (.c rfl .n)))) (fun w => BS22_4_0_1_2_3 w) fun n6 => ?_
  refine lV (yCall rfl (.c rfl (.c rfl .n)) C35 (fun w hw => spanL_any _ _ w)) rfl rfl ?_
  refine lV (yBuild (.c rfl (.c rfl .n)) (fun w => B26_0_1 w)) rfl rfl ?_
  refine lE rfl ?_
  refine eAlloc Z26 fun n1 => ?_
  refine lE rfl ?_
  refine eStoreL 0 rfl rfl rfl rfl K26 rfl (rfl) ?_
  refine lNil ?_
  refine kThen ?_
  refine kSeq ?_
  refine kDrawE [(0, some [0]), (1, none)] [] [0, 1, 2, 3, 4, 5, 6] 3 hMix (by kernel_rfl) ?_
  refine .run rfl (yLoadA (vs := [_, _, _]) rfl A26 (cOwn 0 rfl rfl)) rfl rfl ?_
  refine .run rfl (yCall rfl (.c rfl (.c rfl .n)) C35 (fun w hw => spanL_any _ _ w)) rfl rfl ?_
  refine .run rfl (yBuild (.c rfl (.c rfl (.c rfl .n))) (fun w => B47_0_1_2 w)) rfl rfl ?_
  refine .run rfl (yBuild (.c rfl (.c rfl (.c rfl .n))) (fun w => B47_0_1_2 w)) rfl rfl ?_
  refine .run rfl (yBuild (.c rfl (.c rfl (.c rfl .n))) (fun w => B47_0_1_2 w)) rfl rfl ?_
  refine .run rfl (yBuild (.c rfl (.c rfl (.c rfl .n))) (fun w => B47_0_1_2 w)) rfl rfl ?_
  refine .run rfl (yBuild (.c rfl (.c rfl (.c rfl .n))) (fun w => B47_0_1_2 w)) rfl rfl ?_
  refine .done ?_
  refine effStep 7 [] (by kernel_rfl) closedSt (hLeft [0, 1] (by kernel_rfl) (.c (fun _ _ hs => hs.ef.sub (.c 0 rfl .n)) (.c (fun _ _ hs => hs.ef) .n))) ?_
  refine .c ?_ .n
  refine effOne rfl (gNone rfl (fBuildSlice (.c rfl (.c rfl (.c rfl (.c rfl (.c rfl .n))))) (fun w => BS27_5_0_1_2_3_4 w))) ?_
  refine effStep 8 [] (by kernel_rfl) (closedEx fun n16 => closedSt) (hLeft [0, 1] (by kernel_rfl) (.c (fun _ _ ⟨n16, hs⟩ => hs.ef.sub (.c 1 rfl .n)) (.c (fun _ _ ⟨n16, hs⟩ => hs.ef.sub (.c 1 rfl (.c 1 rfl (.c 1 rfl .n)))) .n))) ?_
  refine .c ?_ .n
  refine effOne rfl (opEx fun n16 => (gNone rfl (fV (yBuild (.c rfl (.c rfl (.c rfl (.c rfl (.c rfl .n))))) (fun w => B29_0_1_2_3_4 w)) rfl))) ?_
  refine effStep 9 [] (by kernel_rfl) (closedEx fun n16 => closedSt) (hLeft [] (by kernel_rfl) .n) ?_
  refine .c ?_ .n
  refine effOne rfl (opEx fun n16 => (gNone rfl (fStoreL 3 rfl rfl rfl rfl K29 rfl (rfl)))) ?_
  refine effDone (closedEx fun n16 => closedSt) (hLeft [] (by kernel_rfl) .n) (by kernel_rfl) ?_
  refine trEx fun n16 => ?_
  refine kThen ?_
  refine kRet ?_
  refine fRet rfl (.cA (us := [_, _, _, _, _, _, _, _]) rfl A29 (cOwn 3 rfl rfl) .n) ?_
  exact endX (n6, n16) trivial rfl rfl (.c 2 rfl (.c 0 rfl .n))
set_option maxRecDepth 100000 in
set_option maxHeartbeats 4000000 in
theorem awake_any (w : World) : Calls Try.prog 14 [].toArray w (Ret w (.bool true)) := by
  refine fEnter Try.func14 rfl Try.ntmps14 rfl ?_
  refine kSeq ?_
  refine kRegion rfl ?_
  refine lV (yAssign rfl) rfl rfl ?_
  refine lNil ?_
  refine kThen ?_
  refine kSeq ?_
  refine kRegion rfl ?_
  refine lE rfl ?_
  refine eCallX rfl .n C45 (fun w hw => sample_any w) fun ⟨e, l⟩ _ => ?_
  refine lV (yCall rfl (.c rfl (.c rfl .n)) C15 (fun w hw => habit_any (locW e l) sam 0 w (sam_in (hw.blkAt 0 rfl) (hw.blkAt 1 rfl)) (by decide))) rfl rfl ?_
  refine same (t := 19) (u := outC ((-18, 20), 0)) rfl (by rw [v_habit]) ?_
  refine lV (yMove rfl) rfl rfl ?_
  refine lV (yExtract rfl rfl) rfl rfl ?_
  refine lV (yExtract rfl rfl) rfl rfl ?_
  refine lE rfl ?_
  refine eAlloc Z24 fun n1 => ?_
  refine lE rfl ?_
  refine eStoreL 0 rfl rfl rfl rfl K24 rfl (rfl) ?_
  refine lV (yAssign rfl) rfl rfl ?_
  refine lNil ?_
  refine kThen ?_
  refine kSeq ?_
  refine forgetP [(n1, _)] (.c 0 rfl .n) ?_
  refine kRegion rfl ?_
  refine lE rfl ?_
  refine eCallX rfl .n C45 (fun w hw => sample_any w) fun ⟨e, l⟩ _ => ?_
  refine lV (yCall rfl (.c rfl (.c rfl (.c rfl .n))) C17 (fun w hw => between_any (locW e l) sam 0 2 w (sam_in (hw.blkAt 0 rfl) (hw.blkAt 1 rfl)) (by decide))) rfl rfl ?_
  refine same (t := 24) (u := outC ((-14, 8), 0)) rfl (by rw [v_betw]) ?_
  refine lV (yMove rfl) rfl rfl ?_
  refine lV (yExtract rfl rfl) rfl rfl ?_
  refine lV (yExtract rfl rfl) rfl rfl ?_
  refine lE rfl ?_
  refine eAlloc Z24 fun n3 => ?_
  refine lE rfl ?_
  refine eStoreL 0 rfl rfl rfl rfl K24 rfl (rfl) ?_
  refine lV (yAssign rfl) rfl rfl ?_
  refine lNil ?_
  refine kThen ?_
  refine kSeq ?_
  refine forgetP [(n3, _), (n1, _)] (.c 0 rfl (.c 2 rfl .n)) ?_
  refine kRegion rfl ?_
  refine lE rfl ?_
  refine eCallX rfl .n C45 (fun w hw => sample_any w) fun ⟨e, l⟩ _ => ?_
  refine lV (yCall rfl (.c rfl (.c rfl .n)) C19 (fun w hw => place_any (locW e l) sam 0 w (sam_in (hw.blkAt 0 rfl) (hw.blkAt 1 rfl)) (by decide))) rfl rfl ?_
  refine same (t := 29) (u := outC ((487, 525), 0)) rfl (by rw [v_place]) ?_
  refine lV (yMove rfl) rfl rfl ?_
  refine lV (yExtract rfl rfl) rfl rfl ?_
  refine lV (yExtract rfl rfl) rfl rfl ?_
  refine lE rfl ?_
  refine eAlloc Z24 fun n5 => ?_
  refine lE rfl ?_
  refine eStoreL 0 rfl rfl rfl rfl K24 rfl (rfl) ?_
  refine lV (yAssign rfl) rfl rfl ?_
  refine lNil ?_
  refine kThen ?_
  refine kSeq ?_
  refine forgetP [(n5, _), (n3, _), (n1, _)] (.c 0 rfl (.c 2 rfl (.c 2 rfl .n))) ?_
  refine kRegion rfl ?_
  refine lE rfl ?_
  refine eCallX rfl .n C45 (fun w hw => sample_any w) fun ⟨e, l⟩ _ => ?_
  refine lV (yCall rfl (.c rfl .n) C27 (fun w hw => expl_any (locW e l) sam w (sam_in (hw.blkAt 0 rfl) (hw.blkAt 1 rfl)) (by decide))) rfl rfl ?_
  refine same (t := 34) (u := outI (1, 0)) rfl (by rw [v_expl]) ?_
  refine lV (yMove rfl) rfl rfl ?_
  refine lV (yExtract rfl rfl) rfl rfl ?_
  refine lV (yExtract rfl rfl) rfl rfl ?_
  refine lV (yAssign rfl) rfl rfl ?_
  refine lV (yAssign rfl) rfl rfl ?_
  refine lNil ?_
  refine kThen ?_
  refine kSeq ?_
  refine forgetP [(n5, _), (n3, _), (n1, _)] (.c 2 rfl (.c 2 rfl (.c 2 rfl .n))) ?_
  refine kRegion rfl ?_
  refine lE rfl ?_
  refine eCallX rfl .n C45 (fun w hw => sample_any w) fun ⟨e, l⟩ _ => ?_
  refine lE rfl ?_
  refine eAlloc Z29 fun n9 => ?_
  refine lE rfl ?_
  refine eStoreL 0 rfl rfl rfl rfl K29 rfl (rfl) ?_
  refine lNil ?_
  refine kThen ?_
  refine kSeq ?_
  refine kRegion rfl ?_
  refine lV (yFieldAddr rfl F29_4) rfl rfl ?_
  refine lV (yLoad1 rfl O27 (cOwn 0 rfl rfl)) rfl rfl ?_
  refine lV (yBuild (.c rfl (.c rfl (.c rfl .n))) (fun w => B47_0_1_2 w)) rfl rfl ?_
  refine lE rfl ?_
  refine eBuildSlice (.c rfl .n) (fun w => BS27_1_0 w) fun n41 => ?_
  refine lE rfl ?_
  refine eAppend (gs := .b l 5 looks5) [(n41, _), (n9, _), (e, _), (n5, _), (n3, _), (n1, _)] (es := looksV.map rowK) ([(2, 0, 560)].map rowK) AP27 rfl rfl (.c 0 rfl (.c 0 rfl (.c 0 rfl (.c 1 rfl (.c 1 rfl (.c 1 rfl (.c 0 rfl .n))))))) (OS.lit (es := looksV.map rowK) (rowsK_len _) rfl (by decide)) (by simp) (rowsK_len _) (SlN.own 0 rfl rfl) (rowsK_one _) (by simp [looksV]) (by simp [looksV]) fun h hh => ?_
  rw [← List.map_append] at hh ⊢
  refine lV (yFieldAddr rfl F29_4) rfl rfl ?_
  refine lE rfl ?_
  refine eStoreL 1 rfl rfl rfl rfl K27 rfl (rfl) ?_
  refine lNil ?_
  refine kThen ?_
  refine kSeq ?_
  refine kRegion rfl ?_
  refine lV (yLoadA (vs := [_, _, _, _, _, _, _, _]) rfl A29 (cOwn 1 rfl rfl)) rfl rfl ?_
  refine lV (yCall rfl (.c rfl .n) C23 (fun w hw => clash_any ⟨some ⟨e, 0, none⟩, 4, osA h, osC h⟩ sam6 w ⟨sleRows (f := rowE) (fun _ => rfl) (0, 0) [(-2, 2), (0, 5), (1, 1), (-4, 0)] rfl (hw.blkAt 2 rfl), OS.rowsE (f := rowK) look0 hh hw (.d 0 (.d 0 (.d 0 (.d 0 (.d 0 (.d 0 .r))))))⟩ (by decide))) rfl rfl ?_
  refine same (t := 46) (u := outI (33, 0)) rfl (by rw [v_clash]) ?_
  refine lV (yMove rfl) rfl rfl ?_
  refine lV (yExtract rfl rfl) rfl rfl ?_
  refine lV (yExtract rfl rfl) rfl rfl ?_
  refine lV (yAssign rfl) rfl rfl ?_
  refine lV (yAssign rfl) rfl rfl ?_
  refine lNil ?_
  refine kThen ?_
  refine kSeq ?_
  refine kRegion rfl ?_
  refine lV (yLoadA (vs := [_, _, _, _, _, _, _, _]) rfl A29 (cOwn 1 rfl rfl)) rfl rfl ?_
  refine lV (yCall rfl (.c rfl .n) C25 (fun w hw => drop_any ⟨some ⟨e, 0, none⟩, 4, osA h, osC h⟩ sam6 w ⟨sleRows (f := rowE) (fun _ => rfl) (0, 0) [(-2, 2), (0, 5), (1, 1), (-4, 0)] rfl (hw.blkAt 2 rfl), OS.rowsE (f := rowK) look0 hh hw (.d 0 (.d 0 (.d 0 (.d 0 (.d 0 (.d 0 .r))))))⟩ (by decide))) rfl rfl ?_
  refine same (t := 51) (u := outI (32, 0)) rfl (by rw [v_drop]) ?_
  refine lV (yMove rfl) rfl rfl ?_
  refine lV (yExtract rfl rfl) rfl rfl ?_
  refine lV (yExtract rfl rfl) rfl rfl ?_
  refine lV (yAssign rfl) rfl rfl ?_
  refine lV (yAssign rfl) rfl rfl ?_
  refine lNil ?_
  refine kThen ?_
  refine kSeq ?_
  refine forgetP [(n5, _), (n3, _), (n1, _)] (.c 3 rfl (.c 3 rfl (.c 3 rfl .n))) ?_
  refine kRegion rfl ?_
  refine lE rfl ?_
  refine eCallX rfl .n C45 (fun w hw => sample_any w) fun ⟨e, l⟩ _ => ?_
  refine lE rfl ?_
  refine eAlloc Z29 fun n14 => ?_
  refine lE rfl ?_
  refine eStoreL 0 rfl rfl rfl rfl K29 rfl (rfl) ?_
  refine lNil ?_
  refine kThen ?_
  refine kSeq ?_
  refine kRegion rfl ?_
  refine lV (yCall rfl (.c rfl (.c rfl .n)) C35 (fun w hw => spanL_any _ _ w)) rfl rfl ?_
  refine lV (yFieldAddr rfl F29_3) rfl rfl ?_
  refine lE rfl ?_
  refine eStoreL 0 rfl rfl rfl rfl K24 rfl (rfl) ?_
  refine lNil ?_
  refine kThen ?_
  refine kSeq ?_
  refine kRegion rfl ?_
  refine lV (yLoadA (vs := [_, _, _, _, _, _, _, _]) rfl A29 (cOwn 0 rfl rfl)) rfl rfl ?_
  refine lV (yCall rfl (.c rfl .n) C21 (fun w hw => sure_any (locW e l) samY w (sam_in (hw.blkAt 1 rfl) (hw.blkAt 2 rfl)) (by decide))) rfl rfl ?_
  refine same (t := 59) (u := outI (1, 0)) rfl (by rw [v_sure]) ?_
  refine lV (yMove rfl) rfl rfl ?_
  refine lV (yExtract rfl rfl) rfl rfl ?_
  refine lV (yExtract rfl rfl) rfl rfl ?_
  refine lV (yAssign rfl) rfl rfl ?_
  refine lV (yAssign rfl) rfl rfl ?_
  refine lNil ?_
  refine kThen ?_
  refine kSeq ?_
  refine forgetP [(n5, _), (n3, _), (n1, _)] (.c 3 rfl (.c 3 rfl (.c 3 rfl .n))) ?_
  refine kDrawE [(0, none), (1, none), (8, none), (9, none), (17, none), (18, none)] [] [0, 1, 2, 3, 4, 5, 6, 7, 8, 9, 10, 11, 12, 13, 14, 15, 16, 17, 18, 19, 20, 21, 22, 23, 24, 25, 26, 27, 28, 29, 30, 31, 32, 33, 34, 35, 36, 37, 38, 39, 40, 41, 42, 43, 44, 45, 46, 47, 48, 49, 50, 51, 52, 53, 54, 55, 56, 57] 0 hMix (by kernel_rfl) ?_
  refine .run rfl (yLoadA (vs := [_, _]) rfl A24 (cOwn 2 rfl rfl)) rfl rfl ?_
  refine .run rfl (yCall rfl (.c rfl (.c rfl .n)) C35 (fun w hw => spanL_any _ _ w)) rfl rfl ?_
  refine .run rfl (yvTrue (yEqAgg rfl rfl G24 (fun w => Q24 w)) (by decide)) rfl rfl ?_
  refine .run rfl (yMove rfl) rfl rfl ?_
  refine .runG rfl (yMove rfl) rfl rfl rfl rfl ?_
  refine .runG rfl (yvTrue (yEql rfl rfl) (by decide)) rfl rfl rfl rfl ?_
  refine .run rfl (yPickT rfl rfl) rfl rfl ?_
  refine .run rfl (yMove rfl) rfl rfl ?_
  refine .runG rfl (yLoadA (vs := [_, _]) rfl A24 (cOwn 1 rfl rfl)) rfl rfl rfl rfl ?_
  refine .runG rfl (yCall rfl (.c rfl (.c rfl .n)) C35 (fun w hw => spanL_any _ _ w)) rfl rfl rfl rfl ?_
  refine .runG rfl (yvTrue (yEqAgg rfl rfl G24 (fun w => Q24 w)) (by decide)) rfl rfl rfl rfl ?_
  refine .run rfl (yPickT rfl rfl) rfl rfl ?_
  refine .run rfl (yMove rfl) rfl rfl ?_
  refine .runG rfl (yMove rfl) rfl rfl rfl rfl ?_
  refine .runG rfl (yvTrue (yEql rfl rfl) (by decide)) rfl rfl rfl rfl ?_
  refine .run rfl (yPickT rfl rfl) rfl rfl ?_
  refine .run rfl (yMove rfl) rfl rfl ?_
  refine .runG rfl (yLoadA (vs := [_, _]) rfl A24 (cOwn 0 rfl rfl)) rfl rfl rfl rfl ?_
  refine .runG rfl (yCall rfl (.c rfl (.c rfl .n)) C35 (fun w hw => spanL_any _ _ w)) rfl rfl rfl rfl ?_
  refine .runG rfl (yvTrue (yEqAgg rfl rfl G24 (fun w => Q24 w)) (by decide)) rfl rfl rfl rfl ?_
  refine .run rfl (yPickT rfl rfl) rfl rfl ?_
  refine .run rfl (yMove rfl) rfl rfl ?_
  refine .runG rfl (yMove rfl) rfl rfl rfl rfl ?_
  refine .runG rfl (yvTrue (yEql rfl rfl) (by decide)) rfl rfl rfl rfl ?_
  refine .run rfl (yPickT rfl rfl) rfl rfl ?_
  refine .run rfl (yMove rfl) rfl rfl ?_
  refine .runG rfl (yMove rfl) rfl rfl rfl rfl ?_
  refine .runG rfl (yvTrue (yEql rfl rfl) (by decide)) rfl rfl rfl rfl ?_
  refine .run rfl (yPickT rfl rfl) rfl rfl ?_
  refine .run rfl (yMove rfl) rfl rfl ?_
  refine .runG rfl (yMove rfl) rfl rfl rfl rfl ?_
  refine .runG rfl (yvTrue (yEql rfl rfl) (by decide)) rfl rfl rfl rfl ?_
  refine .run rfl (yPickT rfl rfl) rfl rfl ?_
  refine .run rfl (yMove rfl) rfl rfl ?_
  refine .runG rfl (yMove rfl) rfl rfl rfl rfl ?_
  refine .runG rfl (yvTrue (yEql rfl rfl) (by decide)) rfl rfl rfl rfl ?_
  refine .run rfl (yPickT rfl rfl) rfl rfl ?_
  refine .run rfl (yMove rfl) rfl rfl ?_
  refine .runG rfl (yMove rfl) rfl rfl rfl rfl ?_
  refine .runG rfl (yvTrue (yEql rfl rfl) (by decide)) rfl rfl rfl rfl ?_
  refine .run rfl (yPickT rfl rfl) rfl rfl ?_
  refine .run rfl (yMove rfl) rfl rfl ?_
  refine .runG rfl (yMove rfl) rfl rfl rfl rfl ?_
  refine .runG rfl (yvTrue (yEql rfl rfl) (by decide)) rfl rfl rfl rfl ?_
  refine .run rfl (yPickT rfl rfl) rfl rfl ?_
  refine .run rfl (yMove rfl) rfl rfl ?_
  refine .runG rfl (yMove rfl) rfl rfl rfl rfl ?_
  refine .runG rfl (yvTrue (yEql rfl rfl) (by decide)) rfl rfl rfl rfl ?_
  refine .run rfl (yPickT rfl rfl) rfl rfl ?_
  refine .run rfl (yMove rfl) rfl rfl ?_
  refine .runG rfl (yMove rfl) rfl rfl rfl rfl ?_
  refine .runG rfl (yvTrue (yEql rfl rfl) (by decide)) rfl rfl rfl rfl ?_
  refine .run rfl (yPickT rfl rfl) rfl rfl ?_
  refine .run rfl (yMove rfl) rfl rfl ?_
  refine .runG rfl (yMove rfl) rfl rfl rfl rfl ?_
  refine .runG rfl (yvTrue (yEql rfl rfl) (by decide)) rfl rfl rfl rfl ?_
  refine .run rfl (yPickT rfl rfl) rfl rfl ?_
  refine .run rfl (yAssign rfl) rfl rfl ?_
  refine .done ?_
  refine effDone closedSt (hLeft [0, 1, 8, 9, 17, 18] (by kernel_rfl) (.c (fun _ _ hs => hs.ef) (.c (fun _ _ hs => hs.ef) (.c (fun _ _ hs => hs.ef) (.c (fun _ _ hs => hs.ef) (.c (fun _ _ hs => hs.ef) (.c (fun _ _ hs => hs.ef) .n))))))) (by kernel_rfl) ?_
  refine kThen ?_
  refine kRet ?_
  refine fRet rfl (.t rfl .n) (endRet ?_)
  rfl
end Go.Proofs.Ytiaaidcdoenloaa
