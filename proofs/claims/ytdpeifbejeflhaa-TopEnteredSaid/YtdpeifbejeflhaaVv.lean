/-
  Walks: valid shelves; lists; sizes; the example.
-/
import Derived.Test.YtdpeifbejeflhaaVu
namespace Go.Proofs.Ytdpeifbejeflhaa
open ZW

set_option maxRecDepth 100000 in
set_option maxHeartbeats 4000000 in
theorem refshelf_any (ys yn : Option Addr × Nat) (s : Shl) (w : World) (hm : InSh w ys yn s) (hl : s.zs.length ≤ 1000) (hl2 : s.ns.length ≤ 1000) : Calls Try.prog 4 [.agg (shlC ys yn s).toArray].toArray w (Ret w (.bool (decide (ShlOk s)))) := by
  refine fEnter Try.func4 rfl Try.ntmps4 rfl ?_
  refine kSeq ?_
  refine kRegion rfl ?_
  refine lE rfl ?_
  refine eBoxA rfl fun n1 => ?_
  refine lV (yAssign rfl) rfl rfl ?_
  refine lNil ?_
  refine kThen ?_
  refine kSeq ?_
  refine kSeq ?_
  by_cases h1 : 0 ≤ s.n ∧ s.n ≤ 8
  · refine kRegion rfl ?_
    refine lV (yFieldAddr rfl F27_0) rfl rfl ?_
    refine lV (yLoad1 rfl O3 (cOwn 0 rfl rfl)) rfl rfl ?_
    refine lV (yCall rfl (.c rfl (.c rfl (.c rfl .n))) C12 (fun w hw => refin11_any _ _ _ w)) rfl rfl ?_
    refine knownB (t := 8) (c := true) rfl (decide_eq_true h1) ?_
    refine lV (yNot rfl) rfl rfl ?_
    refine lV (yMove rfl) rfl rfl ?_
    refine lGY rfl rfl rfl (oV (yFieldAddr rfl F27_1) rfl ?_)
    refine lGY rfl rfl rfl (oV (yLoad1 rfl O22 (cOwn 0 rfl rfl)) rfl ?_)
    refine lGY rfl rfl rfl (oV (yLen rfl S22) rfl ?_)
    refine lGY rfl rfl rfl (oV (yFieldAddr rfl F27_0) rfl ?_)
    refine lGY rfl rfl rfl (oV (yLoad1 rfl O3 (cOwn 0 rfl rfl)) rfl ?_)
    refine lGY rfl rfl rfl (oV (yNeq rfl rfl) rfl ?_)
    refine lV (yPickF rfl rfl) rfl rfl ?_
    refine lV (yMove rfl) rfl rfl ?_
    refine split (t := 18) rfl (fun h18 => ?_) (fun h18 => ?_)
    · refine lGN rfl rfl rfl rfl rfl ?_
      refine lGN rfl rfl rfl rfl rfl ?_
      refine lGN rfl rfl rfl rfl rfl ?_
      refine lGN rfl rfl rfl rfl rfl ?_
      refine lV (yPickT rfl rfl) rfl rfl ?_
      refine lV (yMove rfl) rfl rfl ?_
      refine lGN rfl rfl rfl rfl rfl ?_
      refine lGN rfl rfl rfl rfl rfl ?_
      refine lGN rfl rfl rfl rfl rfl ?_
      refine lGN rfl rfl rfl rfl rfl ?_
      refine lGN rfl rfl rfl rfl rfl ?_
      refine lGN rfl rfl rfl rfl rfl ?_
      refine lGN rfl rfl rfl rfl rfl ?_
      refine lV (yPickT rfl rfl) rfl rfl ?_
      refine lV (yMove rfl) rfl rfl ?_
      refine lGN rfl rfl rfl rfl rfl ?_
      refine lGN rfl rfl rfl rfl rfl ?_
      refine lGN rfl rfl rfl rfl rfl ?_
      refine lGN rfl rfl rfl rfl rfl ?_
      refine lV (yPickT rfl rfl) rfl rfl ?_
      refine lV (yMove rfl) rfl rfl ?_
      refine lGN rfl rfl rfl rfl rfl ?_
      refine lGN rfl rfl rfl rfl rfl ?_
      refine lGN rfl rfl rfl rfl rfl ?_
      refine lGN rfl rfl rfl rfl rfl ?_
      refine lV (yPickT rfl rfl) rfl rfl ?_
      refine lNil ?_
      refine kThen ?_
      refine kIfT rfl ?_
      refine kSeq ?_
      refine kRegion rfl ?_
      refine lV (yAssign rfl) rfl rfl ?_
      refine lNil ?_
      refine kThen ?_
      refine kRet ?_
      refine kThenR ?_
      refine fRet rfl (.t rfl .n) (endRet ?_)
      simp only [packV]
      first
        | rw [decide_eq_true hok]
        | rw [decide_eq_false (show ¬ ShlOk s from fun h => by first | (have := h.n; have := h.l; have := h.p; have := h.k; omega) | exact hx (h.z _ (getD_mem (by omega) 0)) | (have := h.a q hqm; unfold noteOk at this; omega))]
    · refine lGY rfl rfl rfl (oV (yFieldAddr rfl F27_2) rfl ?_)
      refine lGY rfl rfl rfl (oV (yFieldAddr rfl F24_0) rfl ?_)
      refine lGY rfl rfl rfl (oV (yLoad1 rfl O3 (cOwn 0 rfl rfl)) rfl ?_)
      refine lGY rfl rfl rfl (oV (yLss rfl rfl) rfl ?_)
      refine lV (yPickF rfl rfl) rfl rfl ?_
      refine lV (yMove rfl) rfl rfl ?_
      refine split (t := 24) rfl (fun h24 => ?_) (fun h24 => ?_)
      · refine lGN rfl rfl rfl rfl rfl ?_
        refine lGN rfl rfl rfl rfl rfl ?_
        refine lGN rfl rfl rfl rfl rfl ?_
        refine lGN rfl rfl rfl rfl rfl ?_
        refine lGN rfl rfl rfl rfl rfl ?_
        refine lGN rfl rfl rfl rfl rfl ?_
        refine lGN rfl rfl rfl rfl rfl ?_
        refine lV (yPickT rfl rfl) rfl rfl ?_
        refine lV (yMove rfl) rfl rfl ?_
        refine lGN rfl rfl rfl rfl rfl ?_
        refine lGN rfl rfl rfl rfl rfl ?_
        refine lGN rfl rfl rfl rfl rfl ?_
        refine lGN rfl rfl rfl rfl rfl ?_
        refine lV (yPickT rfl rfl) rfl rfl ?_
        refine lV (yMove rfl) rfl rfl ?_
        refine lGN rfl rfl rfl rfl rfl ?_
        refine lGN rfl rfl rfl rfl rfl ?_
        refine lGN rfl rfl rfl rfl rfl ?_
        refine lGN rfl rfl rfl rfl rfl ?_
        refine lV (yPickT rfl rfl) rfl rfl ?_
        refine lNil ?_
        refine kThen ?_
        refine kIfT rfl ?_
        refine kSeq ?_
        refine kRegion rfl ?_
        refine lV (yAssign rfl) rfl rfl ?_
        refine lNil ?_
        refine kThen ?_
        refine kRet ?_
        refine kThenR ?_
        refine fRet rfl (.t rfl .n) (endRet ?_)
        simp only [packV]
        first
          | rw [decide_eq_true hok]
          | rw [decide_eq_false (show ¬ ShlOk s from fun h => by first | (have := h.n; have := h.l; have := h.p; have := h.k; omega) | exact hx (h.z _ (getD_mem (by omega) 0)) | (have := h.a q hqm; unfold noteOk at this; omega))]
      · refine lGY rfl rfl rfl (oV (yFieldAddr rfl F27_2) rfl ?_)
        refine lGY rfl rfl rfl (oV (yFieldAddr rfl F24_0) rfl ?_)
        refine lGY rfl rfl rfl (oV (yLoad1 rfl O3 (cOwn 0 rfl rfl)) rfl ?_)
        refine lGY rfl rfl rfl (oV (yFieldAddr rfl F27_2) rfl ?_)
        refine lGY rfl rfl rfl (oV (yFieldAddr rfl F24_1) rfl ?_)
        refine lGY rfl rfl rfl (oV (yLoad1 rfl O3 (cOwn 0 rfl rfl)) rfl ?_)
        refine lGY rfl rfl rfl (oV (yGtr rfl rfl) rfl ?_)
        refine lV (yPickF rfl rfl) rfl rfl ?_
        refine lV (yMove rfl) rfl rfl ?_
        refine split (t := 33) rfl (fun h33 => ?_) (fun h33 => ?_)
        · refine lGN rfl rfl rfl rfl rfl ?_
          refine lGN rfl rfl rfl rfl rfl ?_
          refine lGN rfl rfl rfl rfl rfl ?_
          refine lGN rfl rfl rfl rfl rfl ?_
          refine lV (yPickT rfl rfl) rfl rfl ?_
          refine lV (yMove rfl) rfl rfl ?_
          refine lGN rfl rfl rfl rfl rfl ?_
          refine lGN rfl rfl rfl rfl rfl ?_
          refine lGN rfl rfl rfl rfl rfl ?_
          refine lGN rfl rfl rfl rfl rfl ?_
          refine lV (yPickT rfl rfl) rfl rfl ?_
          refine lNil ?_
          refine kThen ?_
          refine kIfT rfl ?_
          refine kSeq ?_
          refine kRegion rfl ?_
          refine lV (yAssign rfl) rfl rfl ?_
          refine lNil ?_
          refine kThen ?_
          refine kRet ?_
          refine kThenR ?_
          refine fRet rfl (.t rfl .n) (endRet ?_)
          simp only [packV]
          first
            | rw [decide_eq_true hok]
            | rw [decide_eq_false (show ¬ ShlOk s from fun h => by first | (have := h.n; have := h.l; have := h.p; have := h.k; omega) | exact hx (h.z _ (getD_mem (by omega) 0)) | (have := h.a q hqm; unfold noteOk at this; omega))]
        · refine lGY rfl rfl rfl (oV (yFieldAddr rfl F27_2) rfl ?_)
          refine lGY rfl rfl rfl (oV (yFieldAddr rfl F24_1) rfl ?_)
          refine lGY rfl rfl rfl (oV (yLoad1 rfl O3 (cOwn 0 rfl rfl)) rfl ?_)
          refine lGY rfl rfl rfl (oV (yGtr rfl rfl) rfl ?_)
          refine lV (yPickF rfl rfl) rfl rfl ?_
          refine lV (yMove rfl) rfl rfl ?_
          refine split (t := 39) rfl (fun h39 => ?_) (fun h39 => ?_)
          · refine lGN rfl rfl rfl rfl rfl ?_
            refine lGN rfl rfl rfl rfl rfl ?_
            refine lGN rfl rfl rfl rfl rfl ?_
            refine lGN rfl rfl rfl rfl rfl ?_
            refine lV (yPickT rfl rfl) rfl rfl ?_
            refine lNil ?_
            refine kThen ?_
            refine kIfT rfl ?_
            refine kSeq ?_
            refine kRegion rfl ?_
            refine lV (yAssign rfl) rfl rfl ?_
            refine lNil ?_
            refine kThen ?_
            refine kRet ?_
            refine kThenR ?_
            refine fRet rfl (.t rfl .n) (endRet ?_)
            simp only [packV]
            first
              | rw [decide_eq_true hok]
              | rw [decide_eq_false (show ¬ ShlOk s from fun h => by first | (have := h.n; have := h.l; have := h.p; have := h.k; omega) | exact hx (h.z _ (getD_mem (by omega) 0)) | (have := h.a q hqm; unfold noteOk at this; omega))]
          · refine lGY rfl rfl rfl (oV (yFieldAddr rfl F27_3) rfl ?_)
            refine lGY rfl rfl rfl (oV (yLoad1 rfl O25 (cOwn 0 rfl rfl)) rfl ?_)
            refine lGY rfl rfl rfl (oV (yLen rfl S25) rfl ?_)
            refine lGY rfl rfl rfl (oV (yGtr rfl rfl) rfl ?_)
            refine lV (yPickF rfl rfl) rfl rfl ?_
            refine lNil ?_
            refine kThen ?_
            refine split (t := 44) rfl (fun h44 => ?_) (fun h44 => ?_)
            · refine kIfT rfl ?_
              refine kSeq ?_
              refine kRegion rfl ?_
              refine lV (yAssign rfl) rfl rfl ?_
              refine lNil ?_
              refine kThen ?_
              refine kRet ?_
              refine kThenR ?_
              refine fRet rfl (.t rfl .n) (endRet ?_)
              simp only [packV]
              first
                | rw [decide_eq_true hok]
                | rw [decide_eq_false (show ¬ ShlOk s from fun h => by first | (have := h.n; have := h.l; have := h.p; have := h.k; omega) | exact hx (h.z _ (getD_mem (by omega) 0)) | (have := h.a q hqm; unfold noteOk at this; omega))]
            · refine kIfF rfl ?_
              refine kSkip ?_
              refine kThen ?_
              refine kSeq ?_
              refine kSeq ?_
              refine kRegion rfl ?_
              refine lV (yAssign rfl) rfl rfl ?_
              refine lNil ?_
              refine kThen ?_
              refine kBlock ?_
              refine kLoopX (ι := Nat) (fun i => i ≤ s.zs.length ∧ ∀ j, j < i → sizeOk (s.zs.getD j 0)) (fun i => [(3, i64 (i : Nat))]) [(0, _), (1, _), (6, _), (7, _), (8, _), (9, _), (10, _), (11, _), (12, _), (13, _), (14, _), (15, _), (16, _), (17, _), (18, _), (19, _), (20, _), (21, _), (22, _), (23, _), (24, _), (25, _), (26, _), (27, _), (28, _), (29, _), (30, _), (31, _), (32, _), (33, _), (34, _), (35, _), (36, _), (37, _), (38, _), (39, _), (40, _), (41, _), (42, _), (43, _), (44, _)] (fun i => []) (fun i => []) [(n1, _)] (fun i => s.zs.length - i) 0 (⟨Nat.zero_le _, fun j hj => absurd hj (by omega)⟩) rfl (.c rfl .n) (.c rfl (.c rfl (.c rfl (.c rfl (.c rfl (.c rfl (.c rfl (.c rfl (.c rfl (.c rfl (.c rfl (.c rfl (.c rfl (.c rfl (.c rfl (.c rfl (.c rfl (.c rfl (.c rfl (.c rfl (.c rfl (.c rfl (.c rfl (.c rfl (.c rfl (.c rfl (.c rfl (.c rfl (.c rfl (.c rfl (.c rfl (.c rfl (.c rfl (.c rfl (.c rfl (.c rfl (.c rfl (.c rfl (.c rfl (.c rfl (.c rfl .n))))))))))))))))))))))))))))))))))))))))) (.c 0 rfl .n) ?_
              rintro i ⟨hi, hj⟩
              refine kSeq ?_
              refine kSeq ?_
              refine kRegion rfl ?_
              refine lV (yMove rfl) rfl rfl ?_
              refine lV (yFieldAddr rfl F27_1) rfl rfl ?_
              refine lV (yLoad1 rfl O22 (cOwn 0 rfl rfl)) rfl rfl ?_
              refine lV (yLen rfl S22) rfl rfl ?_
              refine lV (yLss rfl rfl) rfl rfl ?_
              refine lNil ?_
              refine kThen ?_
              refine split (t := 49) rfl (fun h49 => ?_) (fun h49 => ?_)
              · refine kIfT rfl ?_
                refine kSkip ?_
                refine kThen ?_
                refine kSeq ?_
                refine kBlock ?_
                refine kSeq ?_
                by_cases hx : sizeOk (s.zs.getD i 0)
                · refine kRegion rfl ?_
                  refine lV (yFieldAddr rfl F27_1) rfl rfl ?_
                  refine lV (yLoad1 rfl O22 (cOwn 0 rfl rfl)) rfl rfl ?_
                  refine lV (yMove rfl) rfl rfl ?_
                  refine lV (yIndexS  rfl rfl S22 (hm.z.r) ((by omega))) rfl rfl ?_
                  refine lV (yLoad1 rfl O3 (cSl0 (hm.z.r) ((by omega)) rfl)) rfl rfl ?_
                  refine lV (yCall rfl (.c rfl (.c rfl (.c rfl .n))) C12 (fun w hw => refin11_any _ _ _ w)) rfl rfl ?_
                  refine knownB (t := 57) (c := true) rfl (decide_eq_true hx) ?_
                  refine lV (yNot rfl) rfl rfl ?_
                  refine lNil ?_
                  refine kThen ?_
                  refine kIfF rfl ?_
                  refine kSkip ?_
                  refine kInN ?_
                  refine kThen ?_
                  refine kRegion rfl ?_
                  refine lV (yMove rfl) rfl rfl ?_
                  refine lV (yAdd rfl rfl (by omega)) rfl rfl ?_
                  refine lV (yAssign rfl) rfl rfl ?_
                  refine lNil ?_
                  exact kRoundX (i + 1) (⟨by omega, fun j hl => by rcases Nat.lt_or_ge j i with h | h; (· exact hj j h); (obtain rfl : j = i := by omega); exact hx⟩) (by omega) rfl (.c rfl .n) (.c rfl (.c rfl (.c rfl (.c rfl (.c rfl (.c rfl (.c rfl (.c rfl (.c rfl (.c rfl (.c rfl (.c rfl (.c rfl (.c rfl (.c rfl (.c rfl (.c rfl (.c rfl (.c rfl (.c rfl (.c rfl (.c rfl (.c rfl (.c rfl (.c rfl (.c rfl (.c rfl (.c rfl (.c rfl (.c rfl (.c rfl (.c rfl (.c rfl (.c rfl (.c rfl (.c rfl (.c rfl (.c rfl (.c rfl (.c rfl (.c rfl .n))))))))))))))))))))))))))))))))))))))))) (.c 0 rfl .n)
                · refine kRegion rfl ?_
                  refine lV (yFieldAddr rfl F27_1) rfl rfl ?_
                  refine lV (yLoad1 rfl O22 (cOwn 0 rfl rfl)) rfl rfl ?_
                  refine lV (yMove rfl) rfl rfl ?_
                  refine lV (yIndexS  rfl rfl S22 (hm.z.r) ((by omega))) rfl rfl ?_
                  refine lV (yLoad1 rfl O3 (cSl0 (hm.z.r) ((by omega)) rfl)) rfl rfl ?_
                  refine lV (yCall rfl (.c rfl (.c rfl (.c rfl .n))) C12 (fun w hw => refin11_any _ _ _ w)) rfl rfl ?_
                  refine knownB (t := 57) (c := false) rfl (decide_eq_false hx) ?_
                  refine lV (yNot rfl) rfl rfl ?_
                  refine lNil ?_
                  refine kThen ?_
                  refine kIfT rfl ?_
                  refine kSeq ?_
                  refine kRegion rfl ?_
                  refine lV (yAssign rfl) rfl rfl ?_
                  refine lNil ?_
                  refine kThen ?_
                  refine kRet ?_
                  refine kInR ?_
                  refine kThenR ?_
                  refine kThenR ?_
                  refine kInR ?_
                  refine kThenR ?_
                  refine fRet rfl (.t rfl .n) (endRet ?_)
                  simp only [packV]
                  first
                    | rw [decide_eq_true hok]
                    | rw [decide_eq_false (show ¬ ShlOk s from fun h => by first | (have := h.n; have := h.l; have := h.p; have := h.k; omega) | exact hx (h.z _ (getD_mem (by omega) 0)) | (have := h.a q hqm; unfold noteOk at this; omega))]
              · refine kIfF rfl ?_
                refine kExit ?_
                refine kThenX ?_
                refine kThenX ?_
                refine kInX ?_
                refine kThen ?_
                refine kSeq ?_
                refine kSeq ?_
                refine kRegion rfl ?_
                refine lV (yAssign rfl) rfl rfl ?_
                refine lNil ?_
                refine kThen ?_
                refine kBlock ?_
                refine kLoopX (ι := Nat) (fun k => k ≤ s.ns.length ∧ ∀ j, j < k → noteOk s.n (s.ns.getD j note0)) (fun k => [(4, i64 (k : Nat))]) [(0, _), (1, _), (6, _), (7, _), (8, _), (9, _), (10, _), (11, _), (12, _), (13, _), (14, _), (15, _), (16, _), (17, _), (18, _), (19, _), (20, _), (21, _), (22, _), (23, _), (24, _), (25, _), (26, _), (27, _), (28, _), (29, _), (30, _), (31, _), (32, _), (33, _), (34, _), (35, _), (36, _), (37, _), (38, _), (39, _), (40, _), (41, _), (42, _), (43, _), (44, _), (3, _), (45, _), (46, _), (47, _), (48, _), (49, _)] (fun k => []) (fun k => []) [(n1, _)] (fun k => s.ns.length - k) 0 (⟨Nat.zero_le _, fun j hj => absurd hj (by omega)⟩) rfl (.c rfl .n) (.c rfl (.c rfl (.c rfl (.c rfl (.c rfl (.c rfl (.c rfl (.c rfl (.c rfl (.c rfl (.c rfl (.c rfl (.c rfl (.c rfl (.c rfl (.c rfl (.c rfl (.c rfl (.c rfl (.c rfl (.c rfl (.c rfl (.c rfl (.c rfl (.c rfl (.c rfl (.c rfl (.c rfl (.c rfl (.c rfl (.c rfl (.c rfl (.c rfl (.c rfl (.c rfl (.c rfl (.c rfl (.c rfl (.c rfl (.c rfl (.c rfl (.c rfl (.c rfl (.c rfl (.c rfl (.c rfl (.c rfl .n))))))))))))))))))))))))))))))))))))))))))))))) (.c 0 rfl .n) ?_
                rintro k ⟨hk, hjk⟩
                refine kSeq ?_
                refine kSeq ?_
                refine kRegion rfl ?_
                refine lV (yMove rfl) rfl rfl ?_
                refine lV (yFieldAddr rfl F27_3) rfl rfl ?_
                refine lV (yLoad1 rfl O25 (cOwn 0 rfl rfl)) rfl rfl ?_
                refine lV (yLen rfl S25) rfl rfl ?_
                refine lV (yLss rfl rfl) rfl rfl ?_
                refine lNil ?_
                refine kThen ?_
                refine split (t := 63) rfl (fun h63 => ?_) (fun h63 => ?_)
                · refine kIfT rfl ?_
                  refine kSkip ?_
                  refine kThen ?_
                  refine kSeq ?_
                  refine kBlock ?_
                  refine kSeq ?_
                  refine kRegion rfl ?_
                  refine lV (yFieldAddr rfl F27_3) rfl rfl ?_
                  refine lV (yLoad1 rfl O25 (cOwn 0 rfl rfl)) rfl rfl ?_
                  refine lV (yMove rfl) rfl rfl ?_
                  refine lV (yIndexS  rfl rfl S25 (hm.n.r) ((by omega))) rfl rfl ?_
                  refine lV (yLoadA (vs := [_, _, _]) rfl A47 (cSl0 (hm.n.r) ((by omega)) rfl)) rfl rfl ?_
                  refine lE rfl ?_
                  refine eAlloc Z47 fun n5 => ?_
                  refine lE rfl ?_
                  refine eStoreL 0 rfl rfl rfl rfl K47 rfl (rfl) ?_
                  refine lNil ?_
                  obtain ⟨q, hq⟩ : ∃ q, q = s.ns.getD k note0 := ⟨_, rfl⟩
                  have hqm : q ∈ s.ns := hq ▸ getD_mem (by omega) note0
                  rw [← hq]
                  refine kThen ?_
                  refine kSeq ?_
                  refine kRegion rfl ?_
                  refine lV (yFieldAddr rfl F47_0) rfl rfl ?_
                  refine lV (yLoad1 rfl O3 (cOwn 0 rfl rfl)) rfl rfl ?_
                  refine lV (yFieldAddr rfl F27_0) rfl rfl ?_
                  refine lV (yLoad1 rfl O3 (cOwn 1 rfl rfl)) rfl rfl ?_
                  refine lV (ySub rfl rfl (by omega)) rfl rfl ?_
                  refine lV (yCall rfl (.c rfl (.c rfl (.c rfl .n))) C12 (fun w hw => refin11_any _ _ _ w)) rfl rfl ?_
                  refine lV (yNot rfl) rfl rfl ?_
                  refine lV (yMove rfl) rfl rfl ?_
                  refine splitB (t := 78) rfl (fun h78 => ?_) (fun h78 => ?_)
                  · have k1 : ¬ (0 ≤ q.a ∧ q.a ≤ s.n - 1) := by simp at h78; omega
                    refine lGN rfl rfl rfl rfl rfl ?_
                    refine lGN rfl rfl rfl rfl rfl ?_
                    refine lGN rfl rfl rfl rfl rfl ?_
                    refine lGN rfl rfl rfl rfl rfl ?_
                    refine lGN rfl rfl rfl rfl rfl ?_
                    refine lGN rfl rfl rfl rfl rfl ?_
                    refine lGN rfl rfl rfl rfl rfl ?_
                    refine lV (yPickT rfl rfl) rfl rfl ?_
                    refine lV (yMove rfl) rfl rfl ?_
                    refine lGN rfl rfl rfl rfl rfl ?_
                    refine lGN rfl rfl rfl rfl rfl ?_
                    refine lGN rfl rfl rfl rfl rfl ?_
                    refine lGN rfl rfl rfl rfl rfl ?_
                    refine lGN rfl rfl rfl rfl rfl ?_
                    refine lV (yPickT rfl rfl) rfl rfl ?_
                    refine lNil ?_
                    refine kThen ?_
                    refine kIfT rfl ?_
                    refine kSeq ?_
                    refine kRegion rfl ?_
                    refine lV (yAssign rfl) rfl rfl ?_
                    refine lNil ?_
                    refine kThen ?_
                    refine kRet ?_
                    refine kInR ?_
                    refine kThenR ?_
                    refine kThenR ?_
                    refine kInR ?_
                    refine kThenR ?_
                    refine fRet rfl (.t rfl .n) (endRet ?_)
                    simp only [packV]
                    first
                      | rw [decide_eq_true hok]
                      | rw [decide_eq_false (show ¬ ShlOk s from fun h => by first | (have := h.n; have := h.l; have := h.p; have := h.k; omega) | exact hx (h.z _ (getD_mem (by omega) 0)) | (have := h.a q hqm; unfold noteOk at this; omega))]
                  · have k1 : (0 ≤ q.a ∧ q.a ≤ s.n - 1) := by simpa using h78
                    refine lGY rfl rfl rfl (oV (yFieldAddr rfl F47_1) rfl ?_)
                    refine lGY rfl rfl rfl (oV (yLoad1 rfl O3 (cOwn 0 rfl rfl)) rfl ?_)
                    refine lGY rfl rfl rfl (oV (yFieldAddr rfl F27_0) rfl ?_)
                    refine lGY rfl rfl rfl (oV (yLoad1 rfl O3 (cOwn 1 rfl rfl)) rfl ?_)
                    refine lGY rfl rfl rfl (oV (ySub rfl rfl (by omega)) rfl ?_)
                    refine lGY rfl rfl rfl (oV (yCall rfl (.c rfl (.c rfl (.c rfl .n))) C12 (fun w hw => refin11_any _ _ _ w)) rfl ?_)
                    refine lGY rfl rfl rfl (oV (yNot rfl) rfl ?_)
                    refine lV (yPickF rfl rfl) rfl rfl ?_
                    refine lV (yMove rfl) rfl rfl ?_
                    refine splitB (t := 87) rfl (fun h87 => ?_) (fun h87 => ?_)
                    · have k2 : ¬ (0 ≤ q.b ∧ q.b ≤ s.n - 1) := by simp at h87; omega
                      refine lGN rfl rfl rfl rfl rfl ?_
                      refine lGN rfl rfl rfl rfl rfl ?_
                      refine lGN rfl rfl rfl rfl rfl ?_
                      refine lGN rfl rfl rfl rfl rfl ?_
                      refine lGN rfl rfl rfl rfl rfl ?_
                      refine lV (yPickT rfl rfl) rfl rfl ?_
                      refine lNil ?_
                      refine kThen ?_
                      refine kIfT rfl ?_
                      refine kSeq ?_
                      refine kRegion rfl ?_
                      refine lV (yAssign rfl) rfl rfl ?_
                      refine lNil ?_
                      refine kThen ?_
                      refine kRet ?_
                      refine kInR ?_
                      refine kThenR ?_
                      refine kThenR ?_
                      refine kInR ?_
                      refine kThenR ?_
                      refine fRet rfl (.t rfl .n) (endRet ?_)
                      simp only [packV]
                      first
                        | rw [decide_eq_true hok]
                        | rw [decide_eq_false (show ¬ ShlOk s from fun h => by first | (have := h.n; have := h.l; have := h.p; have := h.k; omega) | exact hx (h.z _ (getD_mem (by omega) 0)) | (have := h.a q hqm; unfold noteOk at this; omega))]
                    · have k2 : (0 ≤ q.b ∧ q.b ≤ s.n - 1) := by simpa using h87
                      refine lGY rfl rfl rfl (oV (yFieldAddr rfl F47_0) rfl ?_)
                      refine lGY rfl rfl rfl (oV (yLoad1 rfl O3 (cOwn 0 rfl rfl)) rfl ?_)
                      refine lGY rfl rfl rfl (oV (yFieldAddr rfl F47_1) rfl ?_)
                      refine lGY rfl rfl rfl (oV (yLoad1 rfl O3 (cOwn 0 rfl rfl)) rfl ?_)
                      refine lGY rfl rfl rfl (oV (yEql rfl rfl) rfl ?_)
                      refine lV (yPickF rfl rfl) rfl rfl ?_
                      refine lNil ?_
                      refine kThen ?_
                      refine split (t := 93) rfl (fun h93 => ?_) (fun h93 => ?_)
                      · refine kIfT rfl ?_
                        refine kSeq ?_
                        refine kRegion rfl ?_
                        refine lV (yAssign rfl) rfl rfl ?_
                        refine lNil ?_
                        refine kThen ?_
                        refine kRet ?_
                        refine kInR ?_
                        refine kThenR ?_
                        refine kThenR ?_
                        refine kInR ?_
                        refine kThenR ?_
                        refine fRet rfl (.t rfl .n) (endRet ?_)
                        simp only [packV]
                        first
                          | rw [decide_eq_true hok]
                          | rw [decide_eq_false (show ¬ ShlOk s from fun h => by first | (have := h.n; have := h.l; have := h.p; have := h.k; omega) | exact hx (h.z _ (getD_mem (by omega) 0)) | (have := h.a q hqm; unfold noteOk at this; omega))]
                      · refine kIfF rfl ?_
                        refine kSkip ?_
                        refine kInN ?_
                        refine kThen ?_
                        refine kRegion rfl ?_
                        refine lV (yMove rfl) rfl rfl ?_
                        refine lV (yAdd rfl rfl (by omega)) rfl rfl ?_
                        refine lV (yAssign rfl) rfl rfl ?_
                        refine lNil ?_
                        exact kRoundX (k + 1) (⟨by omega, fun j hl => by rcases Nat.lt_or_ge j k with h | h; (· exact hjk j h); (obtain rfl : j = k := by omega); rw [← hq]; exact ⟨k1, k2, by omega⟩⟩) (by omega) rfl (.c rfl .n) (.c rfl (.c rfl (.c rfl (.c rfl (.c rfl (.c rfl (.c rfl (.c rfl (.c rfl (.c rfl (.c rfl (.c rfl (.c rfl (.c rfl (.c rfl (.c rfl (.c rfl (.c rfl (.c rfl (.c rfl (.c rfl (.c rfl (.c rfl (.c rfl (.c rfl (.c rfl (.c rfl (.c rfl (.c rfl (.c rfl (.c rfl (.c rfl (.c rfl (.c rfl (.c rfl (.c rfl (.c rfl (.c rfl (.c rfl (.c rfl (.c rfl (.c rfl (.c rfl (.c rfl (.c rfl (.c rfl (.c rfl .n))))))))))))))))))))))))))))))))))))))))))))))) (.c 1 rfl .n)
                · refine kIfF rfl ?_
                  refine kExit ?_
                  refine kThenX ?_
                  refine kThenX ?_
                  refine kInX ?_
                  refine kThen ?_
                  refine kSeq ?_
                  refine kRegion rfl ?_
                  refine lV (yAssign rfl) rfl rfl ?_
                  refine lNil ?_
                  have hok : ShlOk s := ⟨h1, by omega, by omega, by omega, fun x hx => by
                    obtain ⟨j, hl, rfl⟩ := List.mem_iff_getElem.1 hx
                    have := hj j (by omega)
                    rwa [← List.getElem_eq_getD (h := hl)] at this, fun x hx => by
                    obtain ⟨j, hl, rfl⟩ := List.mem_iff_getElem.1 hx
                    have := hjk j (by omega)
                    rwa [← List.getElem_eq_getD (h := hl)] at this⟩
                  refine kThen ?_
                  refine kRet ?_
                  refine fRet rfl (.t rfl .n) (endRet ?_)
                  simp only [packV]
                  first
                    | rw [decide_eq_true hok]
                    | rw [decide_eq_false (show ¬ ShlOk s from fun h => by first | (have := h.n; have := h.l; have := h.p; have := h.k; omega) | exact hx (h.z _ (getD_mem (by omega) 0)) | (have := h.a q hqm; unfold noteOk at this; omega))]
  · refine kRegion rfl ?_
    refine lV (yFieldAddr rfl F27_0) rfl rfl ?_
    refine lV (yLoad1 rfl O3 (cOwn 0 rfl rfl)) rfl rfl ?_
    refine lV (yCall rfl (.c rfl (.c rfl (.c rfl .n))) C12 (fun w hw => refin11_any _ _ _ w)) rfl rfl ?_
    refine knownB (t := 8) (c := false) rfl (decide_eq_false h1) ?_
    refine lV (yNot rfl) rfl rfl ?_
    refine lV (yMove rfl) rfl rfl ?_
    refine lGN rfl rfl rfl rfl rfl ?_
    refine lGN rfl rfl rfl rfl rfl ?_
    refine lGN rfl rfl rfl rfl rfl ?_
    refine lGN rfl rfl rfl rfl rfl ?_
    refine lGN rfl rfl rfl rfl rfl ?_
    refine lGN rfl rfl rfl rfl rfl ?_
    refine lV (yPickT rfl rfl) rfl rfl ?_
    refine lV (yMove rfl) rfl rfl ?_
    refine lGN rfl rfl rfl rfl rfl ?_
    refine lGN rfl rfl rfl rfl rfl ?_
    refine lGN rfl rfl rfl rfl rfl ?_
    refine lGN rfl rfl rfl rfl rfl ?_
    refine lV (yPickT rfl rfl) rfl rfl ?_
    refine lV (yMove rfl) rfl rfl ?_
    refine lGN rfl rfl rfl rfl rfl ?_
    refine lGN rfl rfl rfl rfl rfl ?_
    refine lGN rfl rfl rfl rfl rfl ?_
    refine lGN rfl rfl rfl rfl rfl ?_
    refine lGN rfl rfl rfl rfl rfl ?_
    refine lGN rfl rfl rfl rfl rfl ?_
    refine lGN rfl rfl rfl rfl rfl ?_
    refine lV (yPickT rfl rfl) rfl rfl ?_
    refine lV (yMove rfl) rfl rfl ?_
    refine lGN rfl rfl rfl rfl rfl ?_
    refine lGN rfl rfl rfl rfl rfl ?_
    refine lGN rfl rfl rfl rfl rfl ?_
    refine lGN rfl rfl rfl rfl rfl ?_
    refine lV (yPickT rfl rfl) rfl rfl ?_
    refine lV (yMove rfl) rfl rfl ?_
    refine lGN rfl rfl rfl rfl rfl ?_
    refine lGN rfl rfl rfl rfl rfl ?_
    refine lGN rfl rfl rfl rfl rfl ?_
    refine lGN rfl rfl rfl rfl rfl ?_
    refine lV (yPickT rfl rfl) rfl rfl ?_
    refine lNil ?_
    refine kThen ?_
    refine kIfT rfl ?_
    refine kSeq ?_
    refine kRegion rfl ?_
    refine lV (yAssign rfl) rfl rfl ?_
    refine lNil ?_
    refine kThen ?_
    refine kRet ?_
    refine kThenR ?_
    refine fRet rfl (.t rfl .n) (endRet ?_)
    simp only [packV]
    first
      | rw [decide_eq_true hok]
      | rw [decide_eq_false (show ¬ ShlOk s from fun h => by first | (have := h.n; have := h.l; have := h.p; have := h.k; omega) | exact hx (h.z _ (getD_mem (by omega) 0)) | (have := h.a q hqm; unfold noteOk at this; omega))]
set_option maxRecDepth 100000 in
theorem ints_any (a b : Option Addr × Nat) (x y : List Int) (w : World) (ha : SlE w a.1 x.length 1 (fun i => rowI (x.getD i 0))) (hb : SlE w b.1 y.length 1 (fun i => rowI (y.getD i 0))) (hl : x.length ≤ 1000) :
    Calls Try.prog 13 [.slice a.1 x.length a.2, .slice b.1 y.length b.2].toArray w (Ret w (.bool (decide (x = y)))) := by
  refine fEnter Try.func13 rfl Try.ntmps13 rfl ?_
  refine kSeq ?_
  refine kRegion rfl ?_
  refine lV (yAssign rfl) rfl rfl ?_
  refine lNil ?_
  refine kThen ?_
  refine kSeq ?_
  refine kSeq ?_
  refine kRegion rfl ?_
  refine lV (yMove rfl) rfl rfl ?_
  refine lV (yLen rfl S22) rfl rfl ?_
  refine lV (yMove rfl) rfl rfl ?_
  refine lV (yLen rfl S22) rfl rfl ?_
  refine lV (yNeq rfl rfl) rfl rfl ?_
  refine lNil ?_
  refine kThen ?_
  refine split (t := 10) rfl (fun h10 => ?_) (fun h10 => ?_)
  · refine kIfT rfl ?_
    refine kSeq ?_
    refine kRegion rfl ?_
    refine lV (yAssign rfl) rfl rfl ?_
    refine lNil ?_
    refine kThen ?_
    refine kRet ?_
    refine kThenR ?_
    refine fRet rfl (.t rfl .n) (endRet ?_)
    simp only [packV]
    first
      | rw [decide_eq_true heq]
      | rw [decide_eq_false (fun h : x = y => by subst h; first | exact h25 rfl | omega)]
  · refine kIfF rfl ?_
    refine kSkip ?_
    refine kThen ?_
    refine kSeq ?_
    refine kSeq ?_
    refine kRegion rfl ?_
    refine lV (yAssign rfl) rfl rfl ?_
    refine lNil ?_
    refine kThen ?_
    refine kBlock ?_
    refine kLoopX (ι := Nat) (fun i => i ≤ x.length ∧ ∀ j, j < i → x.getD j 0 = y.getD j 0) (fun i => [(5, i64 (i : Nat))]) [(0, _), (1, _), (6, _), (7, _), (8, _), (9, _), (10, _)] (fun i => []) (fun i => []) [] (fun i => x.length - i) 0 (⟨Nat.zero_le _, fun j hj => absurd hj (by omega)⟩) rfl (.c rfl .n) (.c rfl (.c rfl (.c rfl (.c rfl (.c rfl (.c rfl (.c rfl .n))))))) .n ?_
    rintro i ⟨hi, hj⟩
    refine kSeq ?_
    refine kSeq ?_
    refine kRegion rfl ?_
    refine lV (yMove rfl) rfl rfl ?_
    refine lV (yMove rfl) rfl rfl ?_
    refine lV (yLen rfl S22) rfl rfl ?_
    refine lV (yLss rfl rfl) rfl rfl ?_
    refine lNil ?_
    refine kThen ?_
    refine split (t := 14) rfl (fun h14 => ?_) (fun h14 => ?_)
    · refine kIfT rfl ?_
      refine kSkip ?_
      refine kThen ?_
      refine kSeq ?_
      refine kBlock ?_
      refine kSeq ?_
      refine kDrawE [(2, none), (3, none), (6, none), (7, none)] [] [0, 1, 2, 3, 4, 5, 6, 7, 8] 0 hMix (by kernel_rfl) ?_
      refine .run rfl (yMove rfl) rfl rfl ?_
      refine .run rfl (yMove rfl) rfl rfl ?_
      refine .run rfl (yIndexS  rfl rfl S22 (ha.r) ((by omega))) rfl rfl ?_
      refine .run rfl (yLoad1 rfl O3 (cSl0 (ha.r) ((by omega)) rfl)) rfl rfl ?_
      refine .run rfl (yMove rfl) rfl rfl ?_
      refine .run rfl (yMove rfl) rfl rfl ?_
      refine .run rfl (yIndexS  rfl rfl S22 (hb.r) ((by omega))) rfl rfl ?_
      refine .run rfl (yLoad1 rfl O3 (cSl0 (hb.r) ((by omega)) rfl)) rfl rfl ?_
      refine .run rfl (yNeq rfl rfl) rfl rfl ?_
      refine .done ?_
      refine effDone closedSt (hLeft [2, 3, 6, 7] (by kernel_rfl) (.c (fun _ _ hs => hs.ef) (.c (fun _ _ hs => hs.ef) (.c (fun _ _ hs => hs.ef) (.c (fun _ _ hs => hs.ef) .n))))) (by kernel_rfl) ?_
      refine kThen ?_
      refine split (t := 25) rfl (fun h25 => ?_) (fun h25 => ?_)
      · refine kIfT rfl ?_
        refine kSeq ?_
        refine kRegion rfl ?_
        refine lV (yAssign rfl) rfl rfl ?_
        refine lNil ?_
        refine kThen ?_
        refine kRet ?_
        refine kInR ?_
        refine kThenR ?_
        refine kThenR ?_
        refine kInR ?_
        refine kThenR ?_
        refine fRet rfl (.t rfl .n) (endRet ?_)
        simp only [packV]
        first
          | rw [decide_eq_true heq]
          | rw [decide_eq_false (fun h : x = y => by subst h; first | exact h25 rfl | omega)]
      · refine kIfF rfl ?_
        refine kSkip ?_
        refine kInN ?_
        refine kThen ?_
        refine kRegion rfl ?_
        refine lV (yMove rfl) rfl rfl ?_
        refine lV (yAdd rfl rfl (by omega)) rfl rfl ?_
        refine lV (yAssign rfl) rfl rfl ?_
        refine lNil ?_
        exact kRoundX (i + 1) (⟨by omega, fun j hl => by rcases Nat.lt_or_ge j i with h | h; (· exact hj j h); (obtain rfl : j = i := by omega); exact Decidable.of_not_not h25⟩) (by omega) rfl (.c rfl .n) (.c rfl (.c rfl (.c rfl (.c rfl (.c rfl (.c rfl (.c rfl .n))))))) .n
    · refine kIfF rfl ?_
      refine kExit ?_
      refine kThenX ?_
      refine kThenX ?_
      refine kInX ?_
      refine kThen ?_
      refine kSeq ?_
      refine kRegion rfl ?_
      refine lV (yAssign rfl) rfl rfl ?_
      refine lNil ?_
      have heq : x = y := List.ext_getElem (by omega) fun j h1 h2 => by
        have := hj j (by omega)
        rwa [← List.getElem_eq_getD (h := h1), ← List.getElem_eq_getD (h := h2)] at this
      refine kThen ?_
      refine kRet ?_
      refine fRet rfl (.t rfl .n) (endRet ?_)
      simp only [packV]
      first
        | rw [decide_eq_true heq]
        | rw [decide_eq_false (fun h : x = y => by subst h; first | exact h25 rfl | omega)]
theorem popF_more : ∀ (f k : Nat), k < 2 ^ f → popF (f + 1) k = popF f k
  | 0, k, h => by
    obtain rfl : k = 0 := by simp at h; omega
    rfl
  | f + 1, k, h => by
    show k % 2 + popF (f + 1) (k / 2) = k % 2 + popF f (k / 2)
    rw [popF_more f (k / 2) (by rw [Nat.pow_succ] at h; omega)]
theorem popF_step {m : Nat} (h : m < 8192) : popF 13 m = m % 2 + popF 13 (m / 2) := by
  rw [popF_more 12 (m / 2) (by rw [show 2 ^ 12 = 4096 from rfl]; omega)]; rfl
set_option maxRecDepth 100000 in
theorem refsize_any (n : Nat) (w : World) (hn : n < 8192) : Calls Try.prog 11 [i64 (n : Nat)].toArray w (Ret w (i64 (popF 13 n : Nat))) := by
  refine fEnter Try.func11 rfl Try.ntmps11 rfl ?_
  refine kSeq ?_
  refine kRegion rfl ?_
  refine lV (yAssign rfl) rfl rfl ?_
  refine lNil ?_
  refine kThen ?_
  refine kSeq ?_
  refine kRegion rfl ?_
  refine lV (yAssign rfl) rfl rfl ?_
  refine lNil ?_
  refine kThen ?_
  refine kSeq ?_
  refine kBlock ?_
  refine kLoopX (ι := Nat × Nat) (fun q => q.1 < 8192 ∧ q.2 ≤ 10000 ∧ q.2 + popF 13 q.1 = popF 13 n ∧ q.2 + q.1 ≤ n) (fun q => [(0, i64 (q.1 : Nat)), (3, i64 (q.2 : Nat))]) [(2, _)] (fun q => []) (fun q => []) [] (fun q => q.1) (n, 0) (⟨hn, Nat.zero_le _, Nat.zero_add _, by dsimp only; omega⟩) rfl (.c rfl (.c rfl .n)) (.c rfl .n) .n ?_
  rintro ⟨m, c⟩ ⟨hm, hc, hp, hq⟩
  dsimp only at hm hc hp hq ⊢
  have hst := popF_step hm
  refine kSeq ?_
  refine kSeq ?_
  refine kRegion rfl ?_
  refine lV (yMove rfl) rfl rfl ?_
  refine lV (yGtr rfl rfl) rfl rfl ?_
  refine lNil ?_
  refine kThen ?_
  refine split (t := 5) rfl (fun h5 => ?_) (fun h5 => ?_)
  · refine kIfT rfl ?_
    refine kSkip ?_
    refine kThen ?_
    refine kBlock ?_
    refine kSeq ?_
    refine kRegion rfl ?_
    refine lV (yMove rfl) rfl rfl ?_
    refine lV (yMove rfl) rfl rfl ?_
    refine lV (yRem rfl rfl (by omega) (by omega)) rfl rfl ?_
    refine lV (yAdd rfl rfl (by omega)) rfl rfl ?_
    refine same (t := 9) (u := i64 ((c + m % 2 : Nat) : Int)) rfl (by congr 1) ?_
    refine lV (yAssign rfl) rfl rfl ?_
    refine lNil ?_
    refine kThen ?_
    refine kRegion rfl ?_
    refine lV (yMove rfl) rfl rfl ?_
    refine lV (yQuo rfl rfl (by omega) (by omega) (by omega)) rfl rfl ?_
    refine same (t := 11) (u := i64 ((m / 2 : Nat) : Int)) rfl (by congr 1) ?_
    refine lV (yAssign rfl) rfl rfl ?_
    refine lNil ?_
    refine kInN ?_
    exact kRoundX (m / 2, c + m % 2) (⟨by dsimp only; omega, by dsimp only; omega, by dsimp only; rw [← hp, hst]; omega, by dsimp only; omega⟩) (by dsimp only; omega) rfl (.c rfl (.c rfl .n)) (.c rfl .n) .n
  · refine kIfF rfl ?_
    refine kExit ?_
    refine kThenX ?_
    refine kThenX ?_
    refine kInX ?_
    refine kThen ?_
    refine kSeq ?_
    refine kRegion rfl ?_
    refine lV (yMove rfl) rfl rfl ?_
    refine lV (yAssign rfl) rfl rfl ?_
    refine lNil ?_
    refine kThen ?_
    refine kRet ?_
    refine fRet rfl (.t rfl .n) (endRet ?_)
    obtain rfl : m = 0 := by omega
    rw [← hp]; rfl
end Go.Proofs.Ytdpeifbejeflhaa
