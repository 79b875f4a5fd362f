/-
  Walk: EyeTurned.
-/
import Derived.Test.YtiaaidcdoenloaaUe
namespace Go.Proofs.Ytiaaidcdoenloaa
open ZW

set_option maxRecDepth 100000 in
theorem who_any (n3 n4 a m : Nat) (y : WLoc) (X : Wat) (w : World) (h3 : w.heap[n3]? = some (blk (watC y X) 29)) (h4 : w.heap[n4]? = some (blk [.int .u8 (a : Nat)] 5)) (hM : WatOk X) (ha : a < 256) (hm : m ≤ 1000) :
    Calls Try.prog 39 [i64 (m : Nat), .pointer (some ⟨n4, 0, none⟩), .pointer (some ⟨n3, 0, none⟩)].toArray w (Ret w (i64 (sigN (eN X) a m : Nat))) := by
  have hE := eN_pos hM
  refine fEnter Try.func39 rfl Try.ntmps39 rfl ?_
  refine kSeq ?_
  refine kRegion rfl ?_
  refine lV (yAssign rfl) rfl rfl ?_
  refine lNil ?_
  refine kThen ?_
  refine kSeq ?_
  refine kRegion rfl ?_
  refine lV (yMove rfl) rfl rfl ?_
  refine lV (yLoad1 rfl O5 (cOldB (h4) rfl)) rfl rfl ?_
  refine lV (yConvInt rfl U5 U3 (conv_ok (by omega))) rfl rfl ?_
  refine lV (yAdd rfl rfl (by omega)) rfl rfl ?_
  refine lV (yFieldAddr rfl F29_2) rfl rfl ?_
  refine lV (yLoad1 rfl O3 (cOldB (h3) rfl)) rfl rfl ?_
  refine lV (yRem rfl rfl (by omega) (by omega)) rfl rfl ?_
  refine lV (yAssign rfl) rfl rfl ?_
  refine lNil ?_
  refine kThen ?_
  refine kRet ?_
  refine fRet rfl (.t rfl .n) (endRet ?_)
  simp only [packV]; unfold sigN; rw [← hE.2.2, Int.natCast_emod, Int.natCast_add]
set_option maxRecDepth 100000 in
theorem img_any (n3 n5 b m : Nat) (y : WLoc) (X : Wat) (w : World) (h3 : w.heap[n3]? = some (blk (watC y X) 29)) (h4 : w.heap[n5]? = some (blk [.int .u8 (b : Nat)] 5)) (hM : WatOk X) (ha : b < 256) (hm : m ≤ 1000) :
    Calls Try.prog 40 [i64 (m : Nat), .pointer (some ⟨n5, 0, none⟩), .pointer (some ⟨n3, 0, none⟩)].toArray w (Ret w (i64 (sigN (iN X) b m : Nat))) := by
  have hE := iN_pos hM
  refine fEnter Try.func40 rfl Try.ntmps40 rfl ?_
  refine kSeq ?_
  refine kRegion rfl ?_
  refine lV (yAssign rfl) rfl rfl ?_
  refine lNil ?_
  refine kThen ?_
  refine kSeq ?_
  refine kRegion rfl ?_
  refine lV (yMove rfl) rfl rfl ?_
  refine lV (yLoad1 rfl O5 (cOldB (h4) rfl)) rfl rfl ?_
  refine lV (yConvInt rfl U5 U3 (conv_ok (by omega))) rfl rfl ?_
  refine lV (yAdd rfl rfl (by omega)) rfl rfl ?_
  refine lV (yFieldAddr rfl F29_1) rfl rfl ?_
  refine lV (yLoad1 rfl O3 (cOldB (h3) rfl)) rfl rfl ?_
  refine lV (yRem rfl rfl (by omega) (by omega)) rfl rfl ?_
  refine lV (yAssign rfl) rfl rfl ?_
  refine lNil ?_
  refine kThen ?_
  refine kRet ?_
  refine fRet rfl (.t rfl .n) (endRet ?_)
  simp only [packV]; unfold sigN; rw [← hE.2.2, Int.natCast_emod, Int.natCast_add]
theorem and_same {s t i j : Nat} (h : t.testBit j = s.testBit i) : s / 2 ^ i &&& 1 = t / 2 ^ j &&& 1 := by
  rw [Nat.testBit_eq_decide_div_mod_eq, Nat.testBit_eq_decide_div_mod_eq, decide_eq_decide] at h
  rw [Nat.and_one_is_mod, Nat.and_one_is_mod]
  omega
theorem subNil (A : Heap) : SubP (A ++ []) A := by rw [List.append_nil]; exact .r
theorem subAsc {A B C H : Heap} (h : SubP (A ++ (B ++ C)) H) : SubP ((A ++ B) ++ C) H := by rw [List.append_assoc]; exact h
theorem codeW_turn {X : Wat} (hM : WatOk X) (a b : Nat) : codeW (turnW X a b) = codeW X := by
  by_cases ho : okW X
  · rw [codeW_ok hM ho, codeW_ok (turn_ok hM a b) ((turn_okW hM a b).2 ho)]
  · rw [codeW_clash hM ho, codeW_clash (turn_ok hM a b) fun h => ho ((turn_okW hM a b).1 h)]
set_option maxHeartbeats 8000000 in
set_option maxRecDepth 100000 in
theorem turnedL_any (y : WLoc) (X : Wat) (a b : Nat) (w : World) (hm : InW w y X) (ha : a < 256) (hb : b < 256) : Calls Try.prog 11 [.agg (watC y X).toArray, .int .u8 (a : Nat), .int .u8 (b : Nat)].toArray w (Ret w (.bool true)) := by
  refine fEnter Try.func11 rfl Try.ntmps11 rfl ?_
  refine kSeq ?_
  refine kRegion rfl ?_
  refine lE rfl ?_
  refine eBoxA rfl fun n3 => ?_
  refine lE rfl ?_
  refine eBox1 rfl rfl fun n4 => ?_
  refine lE rfl ?_
  refine eBox1 rfl rfl fun n5 => ?_
  refine lV (yAssign rfl) rfl rfl ?_
  refine lNil ?_
  refine kThen ?_
  refine kSeq ?_
  refine kSeq ?_
  refine kRegion rfl ?_
  refine lV (yLoadA (vs := [_, _, _, _, _, _, _, _]) rfl A29 (cOwn 2 rfl rfl)) rfl rfl ?_
  refine lV (yCall rfl (.c rfl (.c rfl .n)) C13 (fun w hw => farw_any y X 7 w (hm.eff hw))) rfl rfl ?_
  refine lV (yMove rfl) rfl rfl ?_
  refine splitB (t := 48) rfl (fun h48 => ?_) (fun h48 => ?_)
  · refine lGN rfl rfl rfl rfl rfl ?_
    refine lGN rfl rfl rfl rfl rfl ?_
    refine lGN rfl rfl rfl rfl rfl ?_
    refine lV (yPickT rfl rfl) rfl rfl ?_
    refine lNil ?_
    refine kThen ?_
    refine kIfT rfl ?_
    refine kSeq ?_
    refine kRegion rfl ?_
    refine lV (yCall rfl .n C14 (fun w hw => awake_any w)) rfl rfl ?_
    refine lV (yAssign rfl) rfl rfl ?_
    refine lNil ?_
    refine kThen ?_
    refine kRet ?_
    refine kThenR ?_
    refine fRet rfl (.t rfl .n) (endRet ?_)
    first | rfl | (simp [packV, *]; done)
  · have hG := of_decide_eq_false h48
    have hn : X.looks.length ≤ 1000000 := by unfold Far at hG; omega
    have hn2 : X.errs.length ≤ 1000000 := by unfold Far at hG; omega
    refine lGY rfl rfl rfl (oV (yLoadA (vs := [_, _, _, _, _, _, _, _]) rfl A29 (cOwn 2 rfl rfl)) rfl ?_)
    refine lGY rfl rfl rfl (oV (yCall rfl (.c rfl .n) C34 (fun w hw => watch_any y X w (hm.eff hw) hn hn2)) rfl ?_)
    refine lGY rfl rfl rfl (oV (yNot rfl) rfl ?_)
    refine lV (yPickF rfl rfl) rfl rfl ?_
    refine lNil ?_
    refine kThen ?_
    refine splitB (t := 52) rfl (fun h52 => ?_) (fun h52 => ?_)
    · refine kIfT rfl ?_
      refine kSeq ?_
      refine kRegion rfl ?_
      refine lV (yCall rfl .n C14 (fun w hw => awake_any w)) rfl rfl ?_
      refine lV (yAssign rfl) rfl rfl ?_
      refine lNil ?_
      refine kThen ?_
      refine kRet ?_
      refine kThenR ?_
      refine fRet rfl (.t rfl .n) (endRet ?_)
      first | rfl | (simp [packV, *]; done)
    · refine kIfF rfl ?_
      refine kSkip ?_
      refine kThen ?_
      refine kSeq ?_
      have hM := notF h52
      have hN := hM.n
      have hI := hM.i
      have hE := hM.e
      have hF := allS_lt hM
      have hlt := allE_lt hM
      have hY := turn_ok hM a b
      have hYn : (turnW X a b).looks.length ≤ 1000000 := by rw [turnW_len]; exact hn
      have cf := set_facts hM
      have cz := set_facts hY
      have cle := cf.cle
      have dle := cf.dle
      have clz := cz.cle
      have dlz := cz.dle
      rw [turn_allS] at clz dlz
      have hep := eN_pos hM
      have hip := iN_pos hM
      refine kRegion rfl ?_
      refine lV (yFieldAddr rfl F29_4) rfl rfl ?_
      refine lV (yLoad1 rfl O27 (cOwn 2 rfl rfl)) rfl rfl ?_
      refine lV (yLen rfl S27) rfl rfl ?_
      refine lV (yAssign rfl) rfl rfl ?_
      refine lNil ?_
      refine kThen ?_
      refine kSeq ?_
      refine kRegion rfl ?_
      refine lV (yMakeFunc .n (.c rfl (.c rfl .n))) rfl rfl ?_
      refine lV (yAssign rfl) rfl rfl ?_
      refine lNil ?_
      refine kThen ?_
      refine kSeq ?_
      refine kRegion rfl ?_
      refine lV (yMakeFunc .n (.c rfl (.c rfl .n))) rfl rfl ?_
      refine lV (yAssign rfl) rfl rfl ?_
      refine lNil ?_
      refine kThen ?_
      refine kSeq ?_
      refine kCutX (ι := Nat × Own) (fun z => OS 3 z.2 (X.looks.map rowK)) (fun z => [(10, .pointer (some ⟨z.1, 0, none⟩)), (11, osV z.2 ([] ++ X.looks.map rowK).length)]) [(0, _), (1, _), (2, _), (3, _), (4, _), (5, _), (6, _), (46, _), (47, _), (48, _), (49, _), (50, _), (51, _), (52, _), (54, _), (55, _), (56, _), (7, _), (57, _), (8, _), (58, _), (9, _)] (fun z => []) (fun z => ([(z.1, blk (watC y X) 29)] ++ osL 47 z.2)) [(n3, _), (n4, _), (n5, _)] (.c rfl (.c rfl (.c rfl (.c rfl (.c rfl (.c rfl (.c rfl (.c rfl (.c rfl (.c rfl (.c rfl (.c rfl (.c rfl (.c rfl (.c rfl (.c rfl (.c rfl (.c rfl (.c rfl (.c rfl (.c rfl (.c rfl .n)))))))))))))))))))))) (.c 2 rfl (.c 1 rfl (.c 0 rfl .n))) ?_ (fun z hgk => ?_)
      · refine kDrawE [(0, none), (3, none)] [] [0, 2, 3] 5 hMix (by kernel_rfl) ?_
        refine .run rfl (yLoadA (vs := [_, _, _, _, _, _, _, _]) rfl A29 (cOwn 2 rfl rfl)) rfl rfl ?_
        refine .run rfl (yFieldAddr rfl F29_4) rfl rfl ?_
        refine .run rfl (yLoad1 rfl O27 (cOwn 2 rfl rfl)) rfl rfl ?_
        refine .done ?_
        refine effStep 1 [5] (by kernel_rfl) closedSt (hLeft [0, 3] (by kernel_rfl) (.c (fun _ _ hs => hs.ef) (.c (fun _ _ hs => hs.ef) .n))) ?_
        refine (.c ?_ (.c ?_ .n))
        · refine effOne rfl (gNone rfl (fBuildSlice .n (fun w => BS27_0_ w))) ?_
          refine effStep 4 [5] (by kernel_rfl) (closedEx fun n60 => closedSt) (hLeft [0, 3] (by kernel_rfl) (.c (fun _ _ ⟨n60, hs⟩ => hs.ef.sub (.c 1 rfl (.c 1 rfl (.c 1 rfl .n)))) (.c (fun _ _ ⟨n60, hs⟩ => hs.ef.sub (.c 1 rfl (.c 1 rfl (.c 1 rfl .n)))) .n))) ?_
          refine (.c ?_ (.c ?_ .n))
          · refine effOne rfl (opEx fun n60 => (gNone rfl (fAppend (gs := .b n60 0 []) [(n5, _), (n4, _), (n3, _)] (es := []) (X.looks.map rowK) AP27 rfl rfl (.c 1 rfl (.c 1 rfl (.c 1 rfl (.c 0 rfl .n)))) (OS.lit (es := []) (by simp) rfl (by decide)) (by simp) (rowsK_len X.looks) (flatten_range (f := rowK) X.looks look0 ▸ SlN.sl hm.l.r) (rowsK_one X.looks) (by simp; omega) (by simp; omega)))) ?_
            refine effStep 5 [] (by kernel_rfl) (closedEx fun n60 => (closedEx fun h => closedSt)) (hLeft [0] (by kernel_rfl) (.c (fun _ _ ⟨n60, ⟨h, hs⟩⟩ => hs.ef.sub (.c 0 rfl (.c 0 rfl (.c 0 rfl .n)))) .n)) ?_
            refine .c ?_ .n
            refine effOne rfl (opEx fun n60 => (opEx fun h => (gNone rfl (fAlloc Z29)))) ?_
            refine effStep 6 [] (by kernel_rfl) (closedEx fun n60 => (closedEx fun h => (closedEx fun n10 => closedSt))) (hLeft [0] (by kernel_rfl) (.c (fun _ _ ⟨n60, ⟨h, ⟨n10, hs⟩⟩⟩ => hs.ef.sub (.c 1 rfl (.c 1 rfl (.c 1 rfl .n)))) .n)) ?_
            refine .c ?_ .n
            refine effOne rfl (opEx fun n60 => (opEx fun h => (opEx fun n10 => (gNone rfl (fStoreL 0 rfl rfl rfl rfl K29 rfl (rfl)))))) ?_
            refine effStep 7 [] (by kernel_rfl) (closedEx fun n60 => (closedEx fun h => (closedEx fun n10 => closedSt))) (hLeft [] (by kernel_rfl) .n) ?_
            refine .c ?_ .n
            refine effOne rfl (opEx fun n60 => (opEx fun h => (opEx fun n10 => (gNone rfl (fV (yAssign rfl) rfl))))) ?_
            refine effDone (closedEx fun n60 => (closedEx fun h => (closedEx fun n10 => closedSt))) (hLeft [] (by kernel_rfl) .n) (by kernel_rfl) ?_
            refine trEx fun n60 => ?_
            refine trEx fun h => ?_
            refine trEx fun n10 => ?_
            exact kMeetX ((n10, h.1)) (by simpa using h.2) rfl (.c rfl (.c rfl .n)) (.c rfl (.c rfl (.c rfl (.c rfl (.c rfl (.c rfl (.c rfl (.c rfl (.c rfl (.c rfl (.c rfl (.c rfl (.c rfl (.c rfl (.c rfl (.c rfl (.c rfl (.c rfl (.c rfl (.c rfl (.c rfl (.c rfl .n)))))))))))))))))))))) (.c 3 rfl (.c 2 rfl (.c 1 rfl (.c 0 rfl .r))))
          · refine effOne rfl (opEx fun n60 => (gNone rfl (fAlloc Z29))) ?_
            refine effStep 4 [] (by kernel_rfl) (closedEx fun n60 => (closedEx fun n10 => closedSt)) (hLeft [0, 3] (by kernel_rfl) (.c (fun _ _ ⟨n60, ⟨n10, hs⟩⟩ => hs.ef.sub (.c 2 rfl (.c 2 rfl (.c 2 rfl .n)))) (.c (fun _ _ ⟨n60, ⟨n10, hs⟩⟩ => hs.ef.sub (.c 2 rfl (.c 2 rfl (.c 2 rfl .n)))) .n))) ?_
            refine .c ?_ .n
            refine effOne rfl (opEx fun n60 => (opEx fun n10 => (gNone rfl (fAppend (gs := .b n60 0 []) [(n10, _), (n5, _), (n4, _), (n3, _)] (es := []) (X.looks.map rowK) AP27 rfl rfl (.c 0 rfl (.c 1 rfl (.c 1 rfl (.c 1 rfl (.c 0 rfl .n))))) (OS.lit (es := []) (by simp) rfl (by decide)) (by simp) (rowsK_len X.looks) (flatten_range (f := rowK) X.looks look0 ▸ SlN.sl hm.l.r) (rowsK_one X.looks) (by simp; omega) (by simp; omega))))) ?_
            refine effStep 6 [] (by kernel_rfl) (closedEx fun n60 => (closedEx fun n10 => (closedEx fun h => closedSt))) (hLeft [0] (by kernel_rfl) (.c (fun _ _ ⟨n60, ⟨n10, ⟨h, hs⟩⟩⟩ => hs.ef.sub (.c 1 rfl (.c 1 rfl (.c 1 rfl .n)))) .n)) ?_
            refine .c ?_ .n
            refine effOne rfl (opEx fun n60 => (opEx fun n10 => (opEx fun h => (gNone rfl (fStoreL 0 rfl rfl rfl rfl K29 rfl (rfl)))))) ?_
            refine effStep 7 [] (by kernel_rfl) (closedEx fun n60 => (closedEx fun n10 => (closedEx fun h => closedSt))) (hLeft [] (by kernel_rfl) .n) ?_
            refine .c ?_ .n
            refine effOne rfl (opEx fun n60 => (opEx fun n10 => (opEx fun h => (gNone rfl (fV (yAssign rfl) rfl))))) ?_
            refine effDone (closedEx fun n60 => (closedEx fun n10 => (closedEx fun h => closedSt))) (hLeft [] (by kernel_rfl) .n) (by kernel_rfl) ?_
            refine trEx fun n60 => ?_
            refine trEx fun n10 => ?_
            refine trEx fun h => ?_
            exact kMeetX ((n10, h.1)) (by simpa using h.2) rfl (.c rfl (.c rfl .n)) (.c rfl (.c rfl (.c rfl (.c rfl (.c rfl (.c rfl (.c rfl (.c rfl (.c rfl (.c rfl (.c rfl (.c rfl (.c rfl (.c rfl (.c rfl (.c rfl (.c rfl (.c rfl (.c rfl (.c rfl (.c rfl (.c rfl .n)))))))))))))))))))))) (.c 3 rfl (.c 2 rfl (.c 1 rfl (.c 0 rfl .r))))
        · refine effOne rfl (gNone rfl (fAlloc Z29)) ?_
          refine effStep 1 [] (by kernel_rfl) (closedEx fun n10 => closedSt) (hLeft [0, 3] (by kernel_rfl) (.c (fun _ _ ⟨n10, hs⟩ => hs.ef.sub (.c 1 rfl (.c 1 rfl (.c 1 rfl .n)))) (.c (fun _ _ ⟨n10, hs⟩ => hs.ef.sub (.c 1 rfl (.c 1 rfl (.c 1 rfl .n)))) .n))) ?_
          refine .c ?_ .n
          refine effOne rfl (opEx fun n10 => (gNone rfl (fBuildSlice .n (fun w => BS27_0_ w)))) ?_
          refine effStep 4 [] (by kernel_rfl) (closedEx fun n10 => (closedEx fun n60 => closedSt)) (hLeft [0, 3] (by kernel_rfl) (.c (fun _ _ ⟨n10, ⟨n60, hs⟩⟩ => hs.ef.sub (.c 2 rfl (.c 2 rfl (.c 2 rfl .n)))) (.c (fun _ _ ⟨n10, ⟨n60, hs⟩⟩ => hs.ef.sub (.c 2 rfl (.c 2 rfl (.c 2 rfl .n)))) .n))) ?_
          refine .c ?_ .n
          refine effOne rfl (opEx fun n10 => (opEx fun n60 => (gNone rfl (fAppend (gs := .b n60 0 []) [(n10, _), (n5, _), (n4, _), (n3, _)] (es := []) (X.looks.map rowK) AP27 rfl rfl (.c 1 rfl (.c 1 rfl (.c 1 rfl (.c 1 rfl (.c 0 rfl .n))))) (OS.lit (es := []) (by simp) rfl (by decide)) (by simp) (rowsK_len X.looks) (flatten_range (f := rowK) X.looks look0 ▸ SlN.sl hm.l.r) (rowsK_one X.looks) (by simp; omega) (by simp; omega))))) ?_
          refine effStep 6 [] (by kernel_rfl) (closedEx fun n10 => (closedEx fun n60 => (closedEx fun h => closedSt))) (hLeft [0] (by kernel_rfl) (.c (fun _ _ ⟨n10, ⟨n60, ⟨h, hs⟩⟩⟩ => hs.ef.sub (.c 1 rfl (.c 1 rfl (.c 1 rfl .n)))) .n)) ?_
          refine .c ?_ .n
          refine effOne rfl (opEx fun n10 => (opEx fun n60 => (opEx fun h => (gNone rfl (fStoreL 0 rfl rfl rfl rfl K29 rfl (rfl)))))) ?_
          refine effStep 7 [] (by kernel_rfl) (closedEx fun n10 => (closedEx fun n60 => (closedEx fun h => closedSt))) (hLeft [] (by kernel_rfl) .n) ?_
          refine .c ?_ .n
          refine effOne rfl (opEx fun n10 => (opEx fun n60 => (opEx fun h => (gNone rfl (fV (yAssign rfl) rfl))))) ?_
          refine effDone (closedEx fun n10 => (closedEx fun n60 => (closedEx fun h => closedSt))) (hLeft [] (by kernel_rfl) .n) (by kernel_rfl) ?_
          refine trEx fun n10 => ?_
          refine trEx fun n60 => ?_
          refine trEx fun h => ?_
          exact kMeetX ((n10, h.1)) (by simpa using h.2) rfl (.c rfl (.c rfl .n)) (.c rfl (.c rfl (.c rfl (.c rfl (.c rfl (.c rfl (.c rfl (.c rfl (.c rfl (.c rfl (.c rfl (.c rfl (.c rfl (.c rfl (.c rfl (.c rfl (.c rfl (.c rfl (.c rfl (.c rfl (.c rfl (.c rfl .n)))))))))))))))))))))) (.c 3 rfl (.c 2 rfl (.c 1 rfl (.c 0 rfl .r))))
      · obtain ⟨n10, gk⟩ := z
        dsimp only at hgk ⊢
        have e5 : ([] ++ X.looks.map rowK).length = X.looks.length := by simp
        rw [e5]
        refine kSeq ?_
        refine kRegion rfl ?_
        refine lV (yFieldAddr rfl F29_4) rfl rfl ?_
        refine lE rfl ?_
        refine eStoreL 3 rfl rfl rfl rfl K27 rfl (rfl) ?_
        refine lNil ?_
        refine kThen ?_
        refine kSeq ?_
        refine kSeq ?_
        refine kRegion rfl ?_
        refine lV (yFieldAddr rfl F29_4) rfl rfl ?_
        refine lV (yLoad1 rfl O27 (cOwn 0 rfl rfl)) rfl rfl ?_
        refine lV (yLen rfl S27) rfl rfl ?_
        refine lV (yMove rfl) rfl rfl ?_
        refine lNil ?_
        refine kThen ?_
        refine kBlock ?_
        refine kLoopX (ι := Nat × Own) (fun x => x.1 ≤ X.looks.length ∧ OS 3 x.2 ((turnL X a b x.1).map rowK)) (fun x => [(68, i64 (x.1 : Nat))]) [(0, _), (1, _), (2, _), (3, _), (4, _), (5, _), (6, _), (46, _), (47, _), (48, _), (49, _), (50, _), (51, _), (52, _), (54, _), (55, _), (56, _), (7, _), (57, _), (8, _), (58, _), (9, _), (10, _), (11, _), (64, _), (65, _), (66, _), (67, _)] (fun x => []) (fun x => ([(n10, blk (partC y X x.2 ((turnL X a b x.1).map rowK).length) 29)] ++ (osL 47 gk ++ osL 47 x.2))) [(n3, _), (n4, _), (n5, _)] (fun x => X.looks.length - x.1) (0, .e none) (⟨Nat.zero_le _, OS.empty⟩) rfl (.c rfl .n) (.c rfl (.c rfl (.c rfl (.c rfl (.c rfl (.c rfl (.c rfl (.c rfl (.c rfl (.c rfl (.c rfl (.c rfl (.c rfl (.c rfl (.c rfl (.c rfl (.c rfl (.c rfl (.c rfl (.c rfl (.c rfl (.c rfl (.c rfl (.c rfl (.c rfl (.c rfl (.c rfl (.c rfl .n)))))))))))))))))))))))))))) (.c 0 rfl (.c 0 rfl (.c 0 rfl (.c 0 rfl (subNil (osL 47 gk)))))) ?_
        rintro ⟨i, gx⟩ ⟨hi, hgx⟩
        dsimp only at hi hgx ⊢
        refine kSeq ?_
        refine kRegion rfl ?_
        refine lV (yLss rfl rfl) rfl rfl ?_
        refine lNil ?_
        refine kThen ?_
        refine kSeq ?_
        refine split (t := 69) rfl (fun h69 => ?_) (fun h69 => ?_)
        · refine kIfT rfl ?_
          refine kSkip ?_
          refine kThen ?_
          refine kSeq ?_
          refine kBlock ?_
          refine kSeq ?_
          refine kRegion rfl ?_
          refine lV (yMove rfl) rfl rfl ?_
          refine lV (yAssign rfl) rfl rfl ?_
          refine lNil ?_
          refine kThen ?_
          refine kSeq ?_
          refine kRegion rfl ?_
          refine lV (yFieldAddr rfl F29_4) rfl rfl ?_
          refine lV (yLoad1 rfl O27 (cOwn 0 rfl rfl)) rfl rfl ?_
          refine lV (yMove rfl) rfl rfl ?_
          refine lV (ySub rfl rfl (by omega)) rfl rfl ?_
          refine lV (yMove rfl) rfl rfl ?_
          refine lV (ySub rfl rfl (by omega)) rfl rfl ?_
          refine same (t := 76) (u := i64 ((X.looks.length - 1 - i : Nat) : Int)) rfl (congrArg i64 (by omega)) ?_
          refine lV (yIndexS  rfl rfl S27 (hm.l.r) ((by omega))) rfl rfl ?_
          refine lV (yLoadA (vs := [_, _, _]) rfl A47 (cSl0 (hm.l.r) ((by omega)) rfl)) rfl rfl ?_
          refine lE rfl ?_
          refine eAlloc Z47 fun n13 => ?_
          refine lE rfl ?_
          refine eStoreL 0 rfl rfl rfl rfl K47 rfl (rfl) ?_
          refine lNil ?_
          refine kThen ?_
          have him := hM.l _ (lkAt_mem (X := X) (i := X.looks.length - 1 - i) (by omega))
          have him1 := him.2.1
          have him2 := him.2.2
          have hll := turnL_len X a b i
          refine kCutQ (ι := Own) (fun z => OS 3 z ((turnL X a b (i + 1)).map rowK)) (fun z => []) [(0, _), (1, _), (2, _), (3, _), (4, _), (5, _), (6, _), (46, _), (47, _), (48, _), (49, _), (50, _), (51, _), (52, _), (54, _), (55, _), (56, _), (7, _), (57, _), (8, _), (58, _), (9, _), (10, _), (11, _), (64, _), (65, _), (66, _), (67, _), (68, _), (69, _), (70, _), (12, _), (71, _), (72, _), (73, _), (74, _), (75, _), (76, _), (77, _), (78, _), (13, _)] (fun z => []) (fun z => ([(n10, blk (partC y X z (List.map rowK (turnL X a b i) ++ [rowK (turnK X a b (lkAt X (X.looks.length - 1 - i)))]).length) 29)] ++ (osL 47 gk ++ osL 47 z))) [(n3, _), (n4, _), (n5, _)] (.c rfl (.c rfl (.c rfl (.c rfl (.c rfl (.c rfl (.c rfl (.c rfl (.c rfl (.c rfl (.c rfl (.c rfl (.c rfl (.c rfl (.c rfl (.c rfl (.c rfl (.c rfl (.c rfl (.c rfl (.c rfl (.c rfl (.c rfl (.c rfl (.c rfl (.c rfl (.c rfl (.c rfl (.c rfl (.c rfl (.c rfl (.c rfl (.c rfl (.c rfl (.c rfl (.c rfl (.c rfl (.c rfl (.c rfl (.c rfl (.c rfl .n))))))))))))))))))))))))))))))))))))))))) (.c 1 rfl (.c 1 rfl (.c 1 rfl .n))) ?_ (fun z hg2 => ?_)
          · refine kDrawE [(1, none), (4, none), (5, none), (8, none), (9, none), (11, none)] [] [0, 1, 2, 3, 4, 5, 6, 7, 8, 9, 10, 11, 12, 15] 3 hMix (by kernel_rfl) ?_
            refine .run rfl (yFieldAddr rfl F29_4) rfl rfl ?_
            refine .run rfl (yLoad1 rfl O27 (cOwn 4 rfl rfl)) rfl rfl ?_
            refine .run rfl (yMove rfl) rfl rfl ?_
            refine .run rfl (yFieldAddr rfl F47_0) rfl rfl ?_
            refine .run rfl (yvSame (u := i64 (((lkAt X (X.looks.length - 1 - i)).1.toNat : Nat) : Int)) (yLoad1 rfl O3 (cOwn 0 rfl rfl)) (congrArg i64 (by show (lkAt X (X.looks.length - 1 - i)).1 = _; omega))) rfl rfl ?_
            refine .run rfl (yCall rfl (.c rfl .n) C39 (fun w hw => who_any n3 n4 a (lkAt X (X.looks.length - 1 - i)).1.toNat y X w (hw.blkAt 1 rfl) (hw.blkAt 2 rfl) hM ha (by omega))) rfl rfl ?_
            refine .run rfl (yMove rfl) rfl rfl ?_
            refine .run rfl (yFieldAddr rfl F47_1) rfl rfl ?_
            refine .run rfl (yvSame (u := i64 (((lkAt X (X.looks.length - 1 - i)).2.1.toNat : Nat) : Int)) (yLoad1 rfl O3 (cOwn 0 rfl rfl)) (congrArg i64 (by show (lkAt X (X.looks.length - 1 - i)).2.1 = _; omega))) rfl rfl ?_
            refine .run rfl (yCall rfl (.c rfl .n) C40 (fun w hw => img_any n3 n5 b (lkAt X (X.looks.length - 1 - i)).2.1.toNat y X w (hw.blkAt 1 rfl) (hw.blkAt 3 rfl) hM hb (by omega))) rfl rfl ?_
            refine .run rfl (yFieldAddr rfl F47_2) rfl rfl ?_
            refine .run rfl (yLoad1 rfl O3 (cOwn 0 rfl rfl)) rfl rfl ?_
            refine .run rfl (yBuild (.c rfl (.c rfl (.c rfl .n))) (fun w => B47_0_1_2 w)) rfl rfl ?_
            refine .run rfl (yFieldAddr rfl F29_4) rfl rfl ?_
            refine .done ?_
            refine effStep 13 [] (by kernel_rfl) closedSt (hLeft [1, 4, 5, 8, 9, 11] (by kernel_rfl) (.c (fun _ _ hs => hs.ef) (.c (fun _ _ hs => hs.ef) (.c (fun _ _ hs => hs.ef) (.c (fun _ _ hs => hs.ef) (.c (fun _ _ hs => hs.ef) (.c (fun _ _ hs => hs.ef) .n))))))) ?_
            refine .c ?_ .n
            refine effOne rfl (gNone rfl (fBuildSlice (.c rfl .n) (fun w => BS27_1_0 w))) ?_
            refine effStep 14 [] (by kernel_rfl) (closedEx fun n92 => closedSt) (hLeft [1] (by kernel_rfl) (.c (fun _ _ ⟨n92, hs⟩ => hs.ef.sub (.c 1 rfl (.c 1 rfl (.c 1 rfl (.c 1 rfl (.c 1 rfl (.d 0 .r))))))) .n)) ?_
            refine .c ?_ .n
            refine effOne rfl (opEx fun n92 => (gNone rfl (fAppend (gs := gx) ([(n92, _), (n13, _), (n3, _), (n4, _), (n5, _), (n10, _)] ++ osL 47 gk) [rowK (turnK X a b (lkAt X (X.looks.length - 1 - i)))] AP27 rfl rfl (subAsc (.c 0 rfl (.c 0 rfl (.c 0 rfl (.c 0 rfl (.c 0 rfl (.c 0 rfl .r))))))) hgx rfl (rowsK_len [_]) (SlN.own 0 rfl rfl) (rowsK_one [_]) (by simp; omega) (by simp; omega)))) ?_
            refine effStep 16 [] (by kernel_rfl) (closedEx fun n92 => (closedEx fun h => closedSt)) (hLeft [] (by kernel_rfl) .n) ?_
            refine .c ?_ .n
            refine effOne rfl (opEx fun n92 => (opEx fun h => (gNone rfl (fStoreL 5 rfl rfl rfl rfl K27 rfl (rfl))))) ?_
            refine effDone (closedEx fun n92 => (closedEx fun h => closedSt)) (hLeft [] (by kernel_rfl) .n) (by kernel_rfl) ?_
            refine trEx fun n92 => ?_
            refine trEx fun h => ?_
            exact kMeetX (h.1) (by rw [turnL_succ, List.map_append]; exact h.2) rfl .n (.c rfl (.c rfl (.c rfl (.c rfl (.c rfl (.c rfl (.c rfl (.c rfl (.c rfl (.c rfl (.c rfl (.c rfl (.c rfl (.c rfl (.c rfl (.c rfl (.c rfl (.c rfl (.c rfl (.c rfl (.c rfl (.c rfl (.c rfl (.c rfl (.c rfl (.c rfl (.c rfl (.c rfl (.c rfl (.c rfl (.c rfl (.c rfl (.c rfl (.c rfl (.c rfl (.c rfl (.c rfl (.c rfl (.c rfl (.c rfl (.c rfl .n))))))))))))))))))))))))))))))))))))))))) (.c 2 rfl (.c 2 rfl (.c 2 rfl (.c 2 rfl (.d 0 (.d 0 .r))))))
          · obtain ⟨g2, rfl⟩ : ∃ g2, g2 = z := ⟨z, rfl⟩
            have e1 : (List.map rowK (turnL X a b i) ++ [rowK (turnK X a b (lkAt X (X.looks.length - 1 - i)))]).length = ((turnL X a b (i + 1)).map rowK).length := by rw [turnL_succ, List.map_append]; rfl
            rw [e1]
            refine kInN ?_
            refine kThen ?_
            refine kRegion rfl ?_
            refine lV (yAdd rfl rfl (by omega)) rfl rfl ?_
            refine lV (yMove rfl) rfl rfl ?_
            refine lNil ?_
            exact kRoundX (i + 1, g2) (⟨by dsimp only; omega, hg2⟩) (by dsimp only; omega) rfl (.c rfl .n) (.c rfl (.c rfl (.c rfl (.c rfl (.c rfl (.c rfl (.c rfl (.c rfl (.c rfl (.c rfl (.c rfl (.c rfl (.c rfl (.c rfl (.c rfl (.c rfl (.c rfl (.c rfl (.c rfl (.c rfl (.c rfl (.c rfl (.c rfl (.c rfl (.c rfl (.c rfl (.c rfl (.c rfl .n)))))))))))))))))))))))))))) (.c 0 rfl (.c 0 rfl (.c 0 rfl (.c 0 rfl .r))))
        · refine kIfF rfl ?_
          refine kExit ?_
          refine kThenX ?_
          refine kThenX ?_
          refine kInX ?_
          refine kThen ?_
          refine kSeq ?_
          by_cases ho : okW X
          · have hil : i = X.looks.length := by omega
            rw [hil] at hgx
            have e3 : ((turnL X a b i).map rowK).length = (turnW X a b).looks.length := by rw [hil, List.length_map]; rfl
            rw [e3]
            have hcl := turn_clash hM a b
            have hdr := turn_drop hM a b
            refine kRegion rfl ?_
            refine lV (yLoadA (vs := [_, _, _, _, _, _, _, _]) rfl A29 (cOwn 0 rfl rfl)) rfl rfl ?_
            refine lV (yCall rfl (.c rfl .n) C23 (fun w hw => clash_any y X w (hm.eff hw) hn)) rfl rfl ?_
            refine same (t := 98) (u := outI (((clashN X : Nat) : Int), 0)) rfl (by rw [clashE_N hM]) ?_
            refine lV (yMove rfl) rfl rfl ?_
            refine lV (yExtract rfl rfl) rfl rfl ?_
            refine lV (yExtract rfl rfl) rfl rfl ?_
            refine lV (yAssign rfl) rfl rfl ?_
            refine lV (yAssign rfl) rfl rfl ?_
            refine lNil ?_
            refine kThen ?_
            refine kSeq ?_
            have hoY := (turn_okW hM a b).2 ho
            have ef := expl_facts hM ho
            have ez := expl_facts hY hoY
            have ele := ef.le
            have elz := ez.le
            have hex := turn_expl hM ho a b
            have hsl := sureN_lt X
            have hsz := sureN_lt (turnW X a b)
            have hp4 : 2 ^ X.eyes.toNat ≤ 2 ^ 4 := Nat.pow_le_pow_right (by omega) (by omega)
            have hsz : sureN (turnW X a b) < 2 ^ X.eyes.toNat := hsz
            have elz : explN (turnW X a b) ≤ allE X := elz
            refine kRegion rfl ?_
            refine lV (yLoadA (vs := [_, _, _, _, _, _, _, _]) rfl A29 (cOwn 3 rfl rfl)) rfl rfl ?_
            refine lV (yCall rfl (.c rfl .n) C23 (fun w hw => clash_any (locG y gx) (turnW X a b) w (hm.grow rfl hgx hw (.d 0 (.d 0 (.d 0 (.d 0 SubP.tail))))) hYn)) rfl rfl ?_
            refine same (t := 103) (u := outI (((clashN (turnW X a b) : Nat) : Int), 0)) rfl (by rw [clashE_N hY]) ?_
            refine lV (yMove rfl) rfl rfl ?_
            refine lV (yExtract rfl rfl) rfl rfl ?_
            refine lV (yExtract rfl rfl) rfl rfl ?_
            refine lV (yAssign rfl) rfl rfl ?_
            refine lV (yAssign rfl) rfl rfl ?_
            refine lNil ?_
            refine kThen ?_
            refine kSeq ?_
            refine kRegion rfl ?_
            refine lV (yLoadA (vs := [_, _, _, _, _, _, _, _]) rfl A29 (cOwn 0 rfl rfl)) rfl rfl ?_
            refine lV (yCall rfl (.c rfl .n) C25 (fun w hw => drop_any y X w (hm.eff hw) hn)) rfl rfl ?_
            refine same (t := 108) (u := outI (((dropN X : Nat) : Int), 0)) rfl (by rw [dropE_N hM]) ?_
            refine lV (yMove rfl) rfl rfl ?_
            refine lV (yExtract rfl rfl) rfl rfl ?_
            refine lV (yExtract rfl rfl) rfl rfl ?_
            refine lV (yAssign rfl) rfl rfl ?_
            refine lV (yAssign rfl) rfl rfl ?_
            refine lNil ?_
            refine kThen ?_
            refine kSeq ?_
            refine kRegion rfl ?_
            refine lV (yLoadA (vs := [_, _, _, _, _, _, _, _]) rfl A29 (cOwn 3 rfl rfl)) rfl rfl ?_
            refine lV (yCall rfl (.c rfl .n) C25 (fun w hw => drop_any (locG y gx) (turnW X a b) w (hm.grow rfl hgx hw (.d 0 (.d 0 (.d 0 (.d 0 SubP.tail))))) hYn)) rfl rfl ?_
            refine same (t := 113) (u := outI (((dropN (turnW X a b) : Nat) : Int), 0)) rfl (by rw [dropE_N hY]) ?_
            refine lV (yMove rfl) rfl rfl ?_
            refine lV (yExtract rfl rfl) rfl rfl ?_
            refine lV (yExtract rfl rfl) rfl rfl ?_
            refine lV (yAssign rfl) rfl rfl ?_
            refine lV (yAssign rfl) rfl rfl ?_
            refine lNil ?_
            refine kThen ?_
            refine kSeq ?_
            refine kRegion rfl ?_
            refine lV (yLoadA (vs := [_, _, _, _, _, _, _, _]) rfl A29 (cOwn 0 rfl rfl)) rfl rfl ?_
            refine lV (yCall rfl (.c rfl .n) C21 (fun w hw => sure_any y X w (hm.eff hw) hn)) rfl rfl ?_
            refine same (t := 118) (u := outI (((sureN X : Nat) : Int), 0)) rfl (by rw [sureE_ok hM ho]) ?_
            refine lV (yMove rfl) rfl rfl ?_
            refine lV (yExtract rfl rfl) rfl rfl ?_
            refine lV (yExtract rfl rfl) rfl rfl ?_
            refine lV (yAssign rfl) rfl rfl ?_
            refine lV (yAssign rfl) rfl rfl ?_
            refine lNil ?_
            refine kThen ?_
            refine kSeq ?_
            refine kRegion rfl ?_
            refine lV (yLoadA (vs := [_, _, _, _, _, _, _, _]) rfl A29 (cOwn 3 rfl rfl)) rfl rfl ?_
            refine lV (yCall rfl (.c rfl .n) C21 (fun w hw => sure_any (locG y gx) (turnW X a b) w (hm.grow rfl hgx hw (.d 0 (.d 0 (.d 0 (.d 0 SubP.tail))))) hYn)) rfl rfl ?_
            refine same (t := 123) (u := outI (((sureN (turnW X a b) : Nat) : Int), 0)) rfl (by rw [sureE_ok hY hoY]) ?_
            refine lV (yMove rfl) rfl rfl ?_
            refine lV (yExtract rfl rfl) rfl rfl ?_
            refine lV (yExtract rfl rfl) rfl rfl ?_
            refine lV (yAssign rfl) rfl rfl ?_
            refine lV (yAssign rfl) rfl rfl ?_
            refine lNil ?_
            refine kThen ?_
            refine kSeq ?_
            refine kRegion rfl ?_
            refine lV (yLoadA (vs := [_, _, _, _, _, _, _, _]) rfl A29 (cOwn 0 rfl rfl)) rfl rfl ?_
            refine lV (yCall rfl (.c rfl .n) C27 (fun w hw => expl_any y X w (hm.eff hw) hn)) rfl rfl ?_
            refine same (t := 128) (u := outI (((explN X : Nat) : Int), 0)) rfl (by rw [explE_N hM ho]) ?_
            refine lV (yMove rfl) rfl rfl ?_
            refine lV (yExtract rfl rfl) rfl rfl ?_
            refine lV (yExtract rfl rfl) rfl rfl ?_
            refine lV (yAssign rfl) rfl rfl ?_
            refine lV (yAssign rfl) rfl rfl ?_
            refine lNil ?_
            refine kThen ?_
            refine kSeq ?_
            refine kRegion rfl ?_
            refine lV (yLoadA (vs := [_, _, _, _, _, _, _, _]) rfl A29 (cOwn 3 rfl rfl)) rfl rfl ?_
            refine lV (yCall rfl (.c rfl .n) C27 (fun w hw => expl_any (locG y gx) (turnW X a b) w (hm.grow rfl hgx hw (.d 0 (.d 0 (.d 0 (.d 0 SubP.tail))))) hYn)) rfl rfl ?_
            refine same (t := 133) (u := outI (((explN (turnW X a b) : Nat) : Int), 0)) rfl (by rw [explE_N hY hoY]) ?_
            refine lV (yMove rfl) rfl rfl ?_
            refine lV (yExtract rfl rfl) rfl rfl ?_
            refine lV (yExtract rfl rfl) rfl rfl ?_
            refine lV (yAssign rfl) rfl rfl ?_
            refine lV (yAssign rfl) rfl rfl ?_
            refine lNil ?_
            refine kThen ?_
            refine kSeq ?_
            refine kRegion rfl ?_
            refine lV (yAssign rfl) rfl rfl ?_
            refine lNil ?_
            refine kThen ?_
            refine kSeq ?_
            refine kSeq ?_
            refine kRegion rfl ?_
            refine lV (yMove rfl) rfl rfl ?_
            refine lV (yMove rfl) rfl rfl ?_
            refine lV (yNeq rfl rfl) rfl rfl ?_
            refine knownN (t := 138) rfl (fun h => h rfl) ?_
            refine lV (yMove rfl) rfl rfl ?_
            refine lGY rfl rfl rfl (oV (yMove rfl) rfl ?_)
            refine lGY rfl rfl rfl (oV (yMove rfl) rfl ?_)
            refine lGY rfl rfl rfl (oV (yNeq rfl rfl) rfl ?_)
            refine knownN (t := 142) rfl (fun h => h rfl) ?_
            refine lV (yPickF rfl rfl) rfl rfl ?_
            refine lV (yMove rfl) rfl rfl ?_
            refine lGY rfl rfl rfl (oV (yMove rfl) rfl ?_)
            refine lGY rfl rfl rfl (oV (yMove rfl) rfl ?_)
            refine lGY rfl rfl rfl (oV (yNeq rfl rfl) rfl ?_)
            refine knownN (t := 147) rfl (fun h => h rfl) ?_
            refine lV (yPickF rfl rfl) rfl rfl ?_
            refine lV (yMove rfl) rfl rfl ?_
            refine lGY rfl rfl rfl (oV (yMove rfl) rfl ?_)
            refine lGY rfl rfl rfl (oV (yMove rfl) rfl ?_)
            refine lGY rfl rfl rfl (oV (yNeq rfl rfl) rfl ?_)
            refine knownN (t := 152) rfl (fun h => h rfl) ?_
            refine lV (yPickF rfl rfl) rfl rfl ?_
            refine lV (yMove rfl) rfl rfl ?_
            refine lGY rfl rfl rfl (oV (yMove rfl) rfl ?_)
            refine lGY rfl rfl rfl (oV (yMove rfl) rfl ?_)
            refine lGY rfl rfl rfl (oV (yCall rfl (.c rfl .n) C33 (fun w hw => rsize_any (clashN X) w (by omega))) rfl ?_)
            refine lGY rfl rfl rfl (oV (yMove rfl) rfl ?_)
            refine lGY rfl rfl rfl (oV (yMove rfl) rfl ?_)
            refine lGY rfl rfl rfl (oV (yCall rfl (.c rfl .n) C33 (fun w hw => rsize_any (clashN (turnW X a b)) w (by omega))) rfl ?_)
            refine lGY rfl rfl rfl (oV (yNeq rfl rfl) rfl ?_)
            refine knownN (t := 161) rfl (fun h => h (by rw [hcl])) ?_
            refine lV (yPickF rfl rfl) rfl rfl ?_
            refine lV (yMove rfl) rfl rfl ?_
            refine lGY rfl rfl rfl (oV (yMove rfl) rfl ?_)
            refine lGY rfl rfl rfl (oV (yMove rfl) rfl ?_)
            refine lGY rfl rfl rfl (oV (yCall rfl (.c rfl .n) C33 (fun w hw => rsize_any (dropN X) w (by omega))) rfl ?_)
            refine lGY rfl rfl rfl (oV (yMove rfl) rfl ?_)
            refine lGY rfl rfl rfl (oV (yMove rfl) rfl ?_)
            refine lGY rfl rfl rfl (oV (yCall rfl (.c rfl .n) C33 (fun w hw => rsize_any (dropN (turnW X a b)) w (by omega))) rfl ?_)
            refine lGY rfl rfl rfl (oV (yNeq rfl rfl) rfl ?_)
            refine knownN (t := 170) rfl (fun h => h (by rw [hdr])) ?_
            refine lV (yPickF rfl rfl) rfl rfl ?_
            refine lV (yMove rfl) rfl rfl ?_
            refine lGY rfl rfl rfl (oV (yMove rfl) rfl ?_)
            refine lGY rfl rfl rfl (oV (yMove rfl) rfl ?_)
            refine lGY rfl rfl rfl (oV (yCall rfl (.c rfl .n) C33 (fun w hw => rsize_any (explN X) w (by omega))) rfl ?_)
            refine lGY rfl rfl rfl (oV (yMove rfl) rfl ?_)
            refine lGY rfl rfl rfl (oV (yMove rfl) rfl ?_)
            refine lGY rfl rfl rfl (oV (yCall rfl (.c rfl .n) C33 (fun w hw => rsize_any (explN (turnW X a b)) w (by omega))) rfl ?_)
            refine lGY rfl rfl rfl (oV (yNeq rfl rfl) rfl ?_)
            refine knownN (t := 179) rfl (fun h => h (by rw [hex])) ?_
            refine lV (yPickF rfl rfl) rfl rfl ?_
            refine lNil ?_
            refine kThen ?_
            refine kIfF rfl ?_
            refine kSkip ?_
            refine kThen ?_
            refine kSeq ?_
            refine kSeq ?_
            refine kRegion rfl ?_
            refine lV (yFieldAddr rfl F29_2) rfl rfl ?_
            refine lV (yLoad1 rfl O3 (cOwn 0 rfl rfl)) rfl rfl ?_
            refine same (t := 182) (u := i64 ((eN X : Nat) : Int)) rfl (congrArg i64 (by omega)) ?_
            refine lV (yMove rfl) rfl rfl ?_
            refine lNil ?_
            refine kThen ?_
            refine kBlock ?_
            refine kLoopX (ι := Nat) (fun m => m ≤ eN X) (fun m => [(183, i64 (m : Nat))]) [(0, _), (1, _), (2, _), (3, _), (4, _), (5, _), (46, _), (47, _), (48, _), (49, _), (50, _), (51, _), (52, _), (54, _), (55, _), (56, _), (7, _), (57, _), (8, _), (58, _), (9, _), (10, _), (11, _), (64, _), (65, _), (66, _), (67, _), (68, _), (69, _), (97, _), (98, _), (96, _), (99, _), (100, _), (14, _), (15, _), (102, _), (103, _), (101, _), (104, _), (105, _), (16, _), (17, _), (107, _), (108, _), (106, _), (109, _), (110, _), (18, _), (19, _), (112, _), (113, _), (111, _), (114, _), (115, _), (20, _), (21, _), (117, _), (118, _), (116, _), (119, _), (120, _), (22, _), (23, _), (122, _), (123, _), (121, _), (124, _), (125, _), (24, _), (25, _), (127, _), (128, _), (126, _), (129, _), (130, _), (26, _), (27, _), (132, _), (133, _), (131, _), (134, _), (135, _), (28, _), (29, _), (30, _), (136, _), (137, _), (138, _), (139, _), (140, _), (141, _), (142, _), (143, _), (144, _), (145, _), (146, _), (147, _), (148, _), (149, _), (150, _), (151, _), (152, _), (153, _), (154, _), (155, _), (156, _), (157, _), (158, _), (159, _), (160, _), (161, _), (162, _), (163, _), (164, _), (165, _), (166, _), (167, _), (168, _), (169, _), (170, _), (171, _), (172, _), (173, _), (174, _), (175, _), (176, _), (177, _), (178, _), (179, _), (180, _), (181, _), (182, _)] (fun m => []) (fun m => (osL 47 gk ++ osL 47 gx)) [(n3, _), (n4, _), (n5, _), (n10, _)] (fun m => eN X - m) 0 (Nat.zero_le _) rfl (.c rfl .n) (.c rfl (.c rfl (.c rfl (.c rfl (.c rfl (.c rfl (.c rfl (.c rfl (.c rfl (.c rfl (.c rfl (.c rfl (.c rfl (.c rfl (.c rfl (.c rfl (.c rfl (.c rfl (.c rfl (.c rfl (.c rfl (.c rfl (.c rfl (.c rfl (.c rfl (.c rfl (.c rfl (.c rfl (.c rfl (.c rfl (.c rfl (.c rfl (.c rfl (.c rfl (.c rfl (.c rfl (.c rfl (.c rfl (.c rfl (.c rfl (.c rfl (.c rfl (.c rfl (.c rfl (.c rfl (.c rfl (.c rfl (.c rfl (.c rfl (.c rfl (.c rfl (.c rfl (.c rfl (.c rfl (.c rfl (.c rfl (.c rfl (.c rfl (.c rfl (.c rfl (.c rfl (.c rfl (.c rfl (.c rfl (.c rfl (.c rfl (.c rfl (.c rfl (.c rfl (.c rfl (.c rfl (.c rfl (.c rfl (.c rfl (.c rfl (.c rfl (.c rfl (.c rfl (.c rfl (.c rfl (.c rfl (.c rfl (.c rfl (.c rfl (.c rfl (.c rfl (.c rfl (.c rfl (.c rfl (.c rfl (.c rfl (.c rfl (.c rfl (.c rfl (.c rfl (.c rfl (.c rfl (.c rfl (.c rfl (.c rfl (.c rfl (.c rfl (.c rfl (.c rfl (.c rfl (.c rfl (.c rfl (.c rfl (.c rfl (.c rfl (.c rfl (.c rfl (.c rfl (.c rfl (.c rfl (.c rfl (.c rfl (.c rfl (.c rfl (.c rfl (.c rfl (.c rfl (.c rfl (.c rfl (.c rfl (.c rfl (.c rfl (.c rfl (.c rfl (.c rfl (.c rfl (.c rfl (.c rfl .n))))))))))))))))))))))))))))))))))))))))))))))))))))))))))))))))))))))))))))))))))))))))))))))))))))))))))))))))))))))))))))))))))))) (.c 0 rfl (.c 0 rfl (.c 0 rfl (.c 0 rfl .r)))) ?_
            rintro m hml
            refine kSeq ?_
            refine kRegion rfl ?_
            refine lV (yLss rfl rfl) rfl rfl ?_
            refine lNil ?_
            refine kThen ?_
            refine kSeq ?_
            refine split (t := 184) rfl (fun h184 => ?_) (fun h184 => ?_)
            · refine kIfT rfl ?_
              refine kSkip ?_
              refine kThen ?_
              refine kSeq ?_
              refine kBlock ?_
              refine kSeq ?_
              refine kRegion rfl ?_
              refine lV (yMove rfl) rfl rfl ?_
              refine lV (yAssign rfl) rfl rfl ?_
              refine lNil ?_
              refine kThen ?_
              refine kSeq ?_
              have hmr : 0 ≤ ((m : Nat) : Int) ∧ ((m : Nat) : Int) ≤ X.eyes - 1 := by omega
              have hs1 := sig_lt hep.1 a m
              have hs0 := sig_lt hep.1 a 0
              have hzr : 0 ≤ ((sigN (eN X) a m : Nat) : Int) ∧ ((sigN (eN X) a m : Nat) : Int) ≤ X.eyes - 1 := by omega
              have hz0 : 0 ≤ ((sigN (eN X) a 0 : Nat) : Int) ∧ ((sigN (eN X) a 0 : Nat) : Int) ≤ X.eyes - 1 := by omega
              have h0r : 0 ≤ (0 : Int) ∧ (0 : Int) ≤ X.eyes - 1 := by omega
              have hmN : m < eN X := by omega
              have h0N : 0 < eN X := hep.1
              refine kRegion rfl ?_
              refine lV (yLoadA (vs := [_, _, _, _, _, _, _, _]) rfl A29 (cOwn 0 rfl rfl)) rfl rfl ?_
              refine lV (yMove rfl) rfl rfl ?_
              refine lV (yCall rfl (.c rfl (.c rfl .n)) C15 (fun w hw => habit_any y X (m : Nat) w (hm.eff hw) hn)) rfl rfl ?_
              refine same (t := 189) (u := outC (habP X m, 0)) rfl (by rw [habitE_ok hM ho hmr]; rfl) ?_
              refine lV (yMove rfl) rfl rfl ?_
              refine lV (yExtract rfl rfl) rfl rfl ?_
              refine lV (yExtract rfl rfl) rfl rfl ?_
              refine lE rfl ?_
              refine eAlloc Z24 fun n32 => ?_
              refine lE rfl ?_
              refine eStoreL 0 rfl rfl rfl rfl K24 rfl (rfl) ?_
              refine lV (yAssign rfl) rfl rfl ?_
              refine lNil ?_
              refine kThen ?_
              refine kSeq ?_
              refine kDrawE [(0, none), (3, none), (4, none)] [] [0, 1, 2, 3, 4, 5, 6, 7, 10] 2 hMix (by kernel_rfl) ?_
              refine .run rfl (yLoadA (vs := [_, _, _, _, _, _, _, _]) rfl A29 (cOwn 4 rfl rfl)) rfl rfl ?_
              refine .run rfl (yMove rfl) rfl rfl ?_
              refine .run rfl (yMove rfl) rfl rfl ?_
              refine .run rfl (yCall rfl (.c rfl .n) C39 (fun w hw => who_any n3 n4 a m y X w (hw.blkAt 1 rfl) (hw.blkAt 2 rfl) hM ha (by omega))) rfl rfl ?_
              refine .run rfl (yvSame (u := outC (habP X m, 0)) (yCall rfl (.c rfl (.c rfl .n)) C15 (fun w hw => habit_any (locG y gx) (turnW X a b) (sigN (eN X) a m : Nat) w (hm.grow rfl hgx hw (.d 0 (.d 0 (.d 0 (.d 0 (.d 0 SubP.tail)))))) hYn)) (by rw [habitE_ok hY hoY hzr, Int.toNat_natCast, turn_hab hM ho a b hmN])) rfl rfl ?_
              refine .run rfl (yMove rfl) rfl rfl ?_
              refine .run rfl (yExtract rfl rfl) rfl rfl ?_
              refine .run rfl (yExtract rfl rfl) rfl rfl ?_
              refine .run rfl (yAssign rfl) rfl rfl ?_
              refine .done ?_
              refine effStep 8 [] (by kernel_rfl) closedSt (hLeft [0, 3, 4] (by kernel_rfl) (.c (fun _ _ hs => hs.ef) (.c (fun _ _ hs => hs.ef) (.c (fun _ _ hs => hs.ef) .n)))) ?_
              refine .c ?_ .n
              refine effOne rfl (gNone rfl (fAlloc Z24)) ?_
              refine effStep 9 [] (by kernel_rfl) (closedEx fun n34 => closedSt) (hLeft [0, 3, 4] (by kernel_rfl) (.c (fun _ _ ⟨n34, hs⟩ => hs.ef.sub (.c 1 rfl (.c 1 rfl (.c 1 rfl (.c 1 rfl (.c 1 rfl (.d 0 .r))))))) (.c (fun _ _ ⟨n34, hs⟩ => hs.ef.sub (.c 1 rfl (.c 1 rfl (.c 1 rfl (.c 1 rfl (.c 1 rfl (.d 0 .r))))))) (.c (fun _ _ ⟨n34, hs⟩ => hs.ef.sub (.c 1 rfl (.c 1 rfl (.c 1 rfl (.c 1 rfl (.c 1 rfl (.d 0 .r))))))) .n)))) ?_
              refine .c ?_ .n
              refine effOne rfl (opEx fun n34 => (gNone rfl (fStoreL 0 rfl rfl rfl rfl K24 rfl (rfl)))) ?_
              refine effDone (closedEx fun n34 => closedSt) (hLeft [] (by kernel_rfl) .n) (by kernel_rfl) ?_
              refine trEx fun n34 => ?_
              refine kThen ?_
              refine kSeq ?_
              refine kRegion rfl ?_
              refine lV (yLoadA (vs := [_, _, _, _, _, _, _, _]) rfl A29 (cOwn 2 rfl rfl)) rfl rfl ?_
              refine lV (yMove rfl) rfl rfl ?_
              refine lV (yCall rfl (.c rfl (.c rfl (.c rfl .n))) C17 (fun w hw => between_any y X 0 (m : Nat) w (hm.eff hw) hn)) rfl rfl ?_
              refine same (t := 203) (u := outC (betP X 0 m, 0)) rfl (by rw [betwE_ok hM ho h0r hmr]; rfl) ?_
              refine lV (yMove rfl) rfl rfl ?_
              refine lV (yExtract rfl rfl) rfl rfl ?_
              refine lV (yExtract rfl rfl) rfl rfl ?_
              refine lE rfl ?_
              refine eAlloc Z24 fun n36 => ?_
              refine lE rfl ?_
              refine eStoreL 0 rfl rfl rfl rfl K24 rfl (rfl) ?_
              refine lV (yAssign rfl) rfl rfl ?_
              refine lNil ?_
              refine kThen ?_
              refine kSeq ?_
              refine kDrawE [(0, none), (2, none), (5, none), (6, none)] [] [0, 1, 2, 3, 4, 5, 6, 7, 8, 9, 12] 2 hMix (by kernel_rfl) ?_
              refine .run rfl (yLoadA (vs := [_, _, _, _, _, _, _, _]) rfl A29 (cOwn 6 rfl rfl)) rfl rfl ?_
              refine .run rfl (yMove rfl) rfl rfl ?_
              refine .run rfl (yCall rfl (.c rfl .n) C39 (fun w hw => who_any n3 n4 a 0 y X w (hw.blkAt 3 rfl) (hw.blkAt 4 rfl) hM ha (by omega))) rfl rfl ?_
              refine .run rfl (yMove rfl) rfl rfl ?_
              refine .run rfl (yMove rfl) rfl rfl ?_
              refine .run rfl (yCall rfl (.c rfl .n) C39 (fun w hw => who_any n3 n4 a m y X w (hw.blkAt 3 rfl) (hw.blkAt 4 rfl) hM ha (by omega))) rfl rfl ?_
              refine .run rfl (yvSame (u := outC (betP X 0 m, 0)) (yCall rfl (.c rfl (.c rfl (.c rfl .n))) C17 (fun w hw => between_any (locG y gx) (turnW X a b) (sigN (eN X) a 0 : Nat) (sigN (eN X) a m : Nat) w (hm.grow rfl hgx hw (.d 0 (.d 0 (.d 0 (.d 0 (.d 0 (.d 0 (.d 0 SubP.tail)))))))) hYn)) (by rw [betwE_ok hY hoY hz0 hzr, Int.toNat_natCast, Int.toNat_natCast, turn_bet hM ho a b h0N hmN])) rfl rfl ?_
              refine .run rfl (yMove rfl) rfl rfl ?_
              refine .run rfl (yExtract rfl rfl) rfl rfl ?_
              refine .run rfl (yExtract rfl rfl) rfl rfl ?_
              refine .run rfl (yAssign rfl) rfl rfl ?_
              refine .done ?_
              refine effStep 10 [] (by kernel_rfl) closedSt (hLeft [0, 2, 5, 6] (by kernel_rfl) (.c (fun _ _ hs => hs.ef) (.c (fun _ _ hs => hs.ef) (.c (fun _ _ hs => hs.ef) (.c (fun _ _ hs => hs.ef) .n))))) ?_
              refine .c ?_ .n
              refine effOne rfl (gNone rfl (fAlloc Z24)) ?_
              refine effStep 11 [] (by kernel_rfl) (closedEx fun n38 => closedSt) (hLeft [0, 2, 5, 6] (by kernel_rfl) (.c (fun _ _ ⟨n38, hs⟩ => hs.ef.sub (.c 1 rfl (.c 1 rfl (.c 1 rfl (.c 1 rfl (.c 1 rfl (.c 1 rfl (.c 1 rfl (.d 0 .r))))))))) (.c (fun _ _ ⟨n38, hs⟩ => hs.ef.sub (.c 1 rfl (.c 1 rfl (.c 1 rfl (.c 1 rfl (.c 1 rfl (.c 1 rfl (.c 1 rfl (.d 0 .r))))))))) (.c (fun _ _ ⟨n38, hs⟩ => hs.ef.sub (.c 1 rfl (.c 1 rfl (.c 1 rfl (.c 1 rfl (.c 1 rfl (.c 1 rfl (.c 1 rfl (.d 0 .r))))))))) (.c (fun _ _ ⟨n38, hs⟩ => hs.ef.sub (.c 1 rfl (.c 1 rfl (.c 1 rfl (.c 1 rfl (.c 1 rfl (.c 1 rfl (.c 1 rfl (.d 0 .r))))))))) .n))))) ?_
              refine .c ?_ .n
              refine effOne rfl (opEx fun n38 => (gNone rfl (fStoreL 0 rfl rfl rfl rfl K24 rfl (rfl)))) ?_
              refine effDone (closedEx fun n38 => closedSt) (hLeft [] (by kernel_rfl) .n) (by kernel_rfl) ?_
              refine trEx fun n38 => ?_
              refine kThen ?_
              refine kSeq ?_
              refine kDrawE [(0, none), (1, none), (9, none), (10, none), (26, none)] [] [0, 1, 2, 3, 4, 5, 6, 7, 8, 9, 10, 11, 12, 13, 14, 15, 16, 17, 18, 19, 20, 21, 22, 23, 24, 25, 26, 27, 28, 29, 30] 0 hMix (by kernel_rfl) ?_
              refine .run rfl (yLoadA (vs := [_, _]) rfl A24 (cOwn 3 rfl rfl)) rfl rfl ?_
              refine .run rfl (yLoadA (vs := [_, _]) rfl A24 (cOwn 2 rfl rfl)) rfl rfl ?_
              refine .run rfl (yvIs (c := false) (yNeAgg rfl rfl G24 (fun w => Q24 w)) (by simp)) rfl rfl ?_
              refine .run rfl (yMove rfl) rfl rfl ?_
              refine .runG rfl (yMove rfl) rfl rfl rfl rfl ?_
              refine .runG rfl (yMove rfl) rfl rfl rfl rfl ?_
              refine .runG rfl (yvFalse (yNeq rfl rfl) (fun h => h rfl)) rfl rfl rfl rfl ?_
              refine .run rfl (yPickF rfl rfl) rfl rfl ?_
              refine .run rfl (yMove rfl) rfl rfl ?_
              refine .runG rfl (yLoadA (vs := [_, _]) rfl A24 (cOwn 1 rfl rfl)) rfl rfl rfl rfl ?_
              refine .runG rfl (yLoadA (vs := [_, _]) rfl A24 (cOwn 0 rfl rfl)) rfl rfl rfl rfl ?_
              refine .runG rfl (yvIs (c := false) (yNeAgg rfl rfl G24 (fun w => Q24 w)) (by simp)) rfl rfl rfl rfl ?_
              refine .run rfl (yPickF rfl rfl) rfl rfl ?_
              refine .run rfl (yMove rfl) rfl rfl ?_
              refine .runG rfl (yMove rfl) rfl rfl rfl rfl ?_
              refine .runG rfl (yMove rfl) rfl rfl rfl rfl ?_
              refine .runG rfl (yvFalse (yNeq rfl rfl) (fun h => h rfl)) rfl rfl rfl rfl ?_
              refine .run rfl (yPickF rfl rfl) rfl rfl ?_
              refine .run rfl (yMove rfl) rfl rfl ?_
              refine .runG rfl (yMove rfl) rfl rfl rfl rfl ?_
              refine .runG rfl (yMove rfl) rfl rfl rfl rfl ?_
              refine .runG rfl (yShr rfl rfl rfl (by omega)) rfl rfl rfl rfl ?_
              refine .runG rfl (yAnd (b := 1) rfl rfl rfl (by first | omega | (have := Nat.div_le_self (sureN X) (2 ^ m); omega) | (have := Nat.div_le_self 0 (2 ^ m); omega)) (by first | omega | (have := Nat.div_le_self (sureN X) (2 ^ m); omega) | (have := Nat.div_le_self 0 (2 ^ m); omega))) rfl rfl rfl rfl ?_
              refine .runG rfl (yMove rfl) rfl rfl rfl rfl ?_
              refine .runG rfl (yMove rfl) rfl rfl rfl rfl ?_
              refine .runG rfl (yMove rfl) rfl rfl rfl rfl ?_
              refine .runG rfl (yCall rfl (.c rfl .n) C39 (fun w hw => who_any n3 n4 a m y X w (hw.blkAt 4 rfl) (hw.blkAt 5 rfl) hM ha (by omega))) rfl rfl rfl rfl ?_
              refine .runG rfl (yShr rfl rfl rfl (by omega)) rfl rfl rfl rfl ?_
              refine .runG rfl (yAnd (b := 1) rfl rfl rfl (by first | omega | (have := Nat.div_le_self (sureN (turnW X a b)) (2 ^ sigN (eN X) a m); omega) | (have := Nat.div_le_self 0 (2 ^ sigN (eN X) a m); omega)) (by first | omega | (have := Nat.div_le_self (sureN (turnW X a b)) (2 ^ sigN (eN X) a m); omega) | (have := Nat.div_le_self 0 (2 ^ sigN (eN X) a m); omega))) rfl rfl rfl rfl ?_
              refine .runG rfl (yvFalse (yNeq rfl rfl) (fun h => h (congrArg _ (and_same (turn_sure hM ho a b hmN))))) rfl rfl rfl rfl ?_
              refine .run rfl (yPickF rfl rfl) rfl rfl ?_
              refine .done ?_
              refine effDone closedSt (hLeft [0, 1, 9, 10, 26] (by kernel_rfl) (.c (fun _ _ hs => hs.ef) (.c (fun _ _ hs => hs.ef) (.c (fun _ _ hs => hs.ef) (.c (fun _ _ hs => hs.ef) (.c (fun _ _ hs => hs.ef) .n)))))) (by kernel_rfl) ?_
              refine kThen ?_
              refine kIfF rfl ?_
              refine kSkip ?_
              refine kInN ?_
              refine kThen ?_
              refine kRegion rfl ?_
              refine lV (yAdd rfl rfl (by omega)) rfl rfl ?_
              refine lV (yMove rfl) rfl rfl ?_
              refine lNil ?_
              exact kRoundX (m + 1) (by omega) (by omega) rfl (.c rfl .n) (.c rfl (.c rfl (.c rfl (.c rfl (.c rfl (.c rfl (.c rfl (.c rfl (.c rfl (.c rfl (.c rfl (.c rfl (.c rfl (.c rfl (.c rfl (.c rfl (.c rfl (.c rfl (.c rfl (.c rfl (.c rfl (.c rfl (.c rfl (.c rfl (.c rfl (.c rfl (.c rfl (.c rfl (.c rfl (.c rfl (.c rfl (.c rfl (.c rfl (.c rfl (.c rfl (.c rfl (.c rfl (.c rfl (.c rfl (.c rfl (.c rfl (.c rfl (.c rfl (.c rfl (.c rfl (.c rfl (.c rfl (.c rfl (.c rfl (.c rfl (.c rfl (.c rfl (.c rfl (.c rfl (.c rfl (.c rfl (.c rfl (.c rfl (.c rfl (.c rfl (.c rfl (.c rfl (.c rfl (.c rfl (.c rfl (.c rfl (.c rfl (.c rfl (.c rfl (.c rfl (.c rfl (.c rfl (.c rfl (.c rfl (.c rfl (.c rfl (.c rfl (.c rfl (.c rfl (.c rfl (.c rfl (.c rfl (.c rfl (.c rfl (.c rfl (.c rfl (.c rfl (.c rfl (.c rfl (.c rfl (.c rfl (.c rfl (.c rfl (.c rfl (.c rfl (.c rfl (.c rfl (.c rfl (.c rfl (.c rfl (.c rfl (.c rfl (.c rfl (.c rfl (.c rfl (.c rfl (.c rfl (.c rfl (.c rfl (.c rfl (.c rfl (.c rfl (.c rfl (.c rfl (.c rfl (.c rfl (.c rfl (.c rfl (.c rfl (.c rfl (.c rfl (.c rfl (.c rfl (.c rfl (.c rfl (.c rfl (.c rfl (.c rfl (.c rfl (.c rfl (.c rfl (.c rfl (.c rfl .n))))))))))))))))))))))))))))))))))))))))))))))))))))))))))))))))))))))))))))))))))))))))))))))))))))))))))))))))))))))))))))))))))))) (.c 4 rfl (.c 4 rfl (.c 4 rfl (.c 4 rfl (.d 0 (.d 0 (.d 0 (.d 0 .r))))))))
            · refine kIfF rfl ?_
              refine kExit ?_
              refine kThenX ?_
              refine kThenX ?_
              refine kInX ?_
              refine kThen ?_
              refine kSeq ?_
              refine kSeq ?_
              refine kRegion rfl ?_
              refine lV (yFieldAddr rfl F29_1) rfl rfl ?_
              refine lV (yLoad1 rfl O3 (cOwn 0 rfl rfl)) rfl rfl ?_
              refine same (t := 249) (u := i64 ((iN X : Nat) : Int)) rfl (congrArg i64 (by omega)) ?_
              refine lV (yMove rfl) rfl rfl ?_
              refine lNil ?_
              refine kThen ?_
              refine kBlock ?_
              refine kLoopX (ι := Nat) (fun m => m ≤ iN X) (fun m => [(250, i64 (m : Nat))]) [(0, _), (1, _), (2, _), (3, _), (4, _), (5, _), (46, _), (47, _), (48, _), (49, _), (50, _), (51, _), (52, _), (54, _), (55, _), (56, _), (7, _), (57, _), (8, _), (58, _), (9, _), (10, _), (11, _), (64, _), (65, _), (66, _), (67, _), (68, _), (69, _), (97, _), (98, _), (96, _), (99, _), (100, _), (14, _), (15, _), (102, _), (103, _), (101, _), (104, _), (105, _), (16, _), (17, _), (107, _), (108, _), (106, _), (109, _), (110, _), (18, _), (19, _), (112, _), (113, _), (111, _), (114, _), (115, _), (20, _), (21, _), (117, _), (118, _), (116, _), (119, _), (120, _), (22, _), (23, _), (122, _), (123, _), (121, _), (124, _), (125, _), (24, _), (25, _), (127, _), (128, _), (126, _), (129, _), (130, _), (26, _), (27, _), (132, _), (133, _), (131, _), (134, _), (135, _), (28, _), (29, _), (30, _), (136, _), (137, _), (138, _), (139, _), (140, _), (141, _), (142, _), (143, _), (144, _), (145, _), (146, _), (147, _), (148, _), (149, _), (150, _), (151, _), (152, _), (153, _), (154, _), (155, _), (156, _), (157, _), (158, _), (159, _), (160, _), (161, _), (162, _), (163, _), (164, _), (165, _), (166, _), (167, _), (168, _), (169, _), (170, _), (171, _), (172, _), (173, _), (174, _), (175, _), (176, _), (177, _), (178, _), (179, _), (180, _), (181, _), (182, _), (183, _), (184, _), (248, _), (249, _)] (fun m => []) (fun m => (osL 47 gk ++ osL 47 gx)) [(n3, _), (n4, _), (n5, _), (n10, _)] (fun m => iN X - m) 0 (Nat.zero_le _) rfl (.c rfl .n) (.c rfl (.c rfl (.c rfl (.c rfl (.c rfl (.c rfl (.c rfl (.c rfl (.c rfl (.c rfl (.c rfl (.c rfl (.c rfl (.c rfl (.c rfl (.c rfl (.c rfl (.c rfl (.c rfl (.c rfl (.c rfl (.c rfl (.c rfl (.c rfl (.c rfl (.c rfl (.c rfl (.c rfl (.c rfl (.c rfl (.c rfl (.c rfl (.c rfl (.c rfl (.c rfl (.c rfl (.c rfl (.c rfl (.c rfl (.c rfl (.c rfl (.c rfl (.c rfl (.c rfl (.c rfl (.c rfl (.c rfl (.c rfl (.c rfl (.c rfl (.c rfl (.c rfl (.c rfl (.c rfl (.c rfl (.c rfl (.c rfl (.c rfl (.c rfl (.c rfl (.c rfl (.c rfl (.c rfl (.c rfl (.c rfl (.c rfl (.c rfl (.c rfl (.c rfl (.c rfl (.c rfl (.c rfl (.c rfl (.c rfl (.c rfl (.c rfl (.c rfl (.c rfl (.c rfl (.c rfl (.c rfl (.c rfl (.c rfl (.c rfl (.c rfl (.c rfl (.c rfl (.c rfl (.c rfl (.c rfl (.c rfl (.c rfl (.c rfl (.c rfl (.c rfl (.c rfl (.c rfl (.c rfl (.c rfl (.c rfl (.c rfl (.c rfl (.c rfl (.c rfl (.c rfl (.c rfl (.c rfl (.c rfl (.c rfl (.c rfl (.c rfl (.c rfl (.c rfl (.c rfl (.c rfl (.c rfl (.c rfl (.c rfl (.c rfl (.c rfl (.c rfl (.c rfl (.c rfl (.c rfl (.c rfl (.c rfl (.c rfl (.c rfl (.c rfl (.c rfl (.c rfl (.c rfl (.c rfl (.c rfl (.c rfl (.c rfl (.c rfl .n))))))))))))))))))))))))))))))))))))))))))))))))))))))))))))))))))))))))))))))))))))))))))))))))))))))))))))))))))))))))))))))))))))))))) (.c 0 rfl (.c 0 rfl (.c 0 rfl (.c 0 rfl .r)))) ?_
              rintro m hml
              refine kSeq ?_
              refine kRegion rfl ?_
              refine lV (yLss rfl rfl) rfl rfl ?_
              refine lNil ?_
              refine kThen ?_
              refine kSeq ?_
              refine split (t := 251) rfl (fun h251 => ?_) (fun h251 => ?_)
              · refine kIfT rfl ?_
                refine kSkip ?_
                refine kThen ?_
                refine kSeq ?_
                refine kBlock ?_
                refine kSeq ?_
                by_cases hsn : seenI X m
                · refine kRegion rfl ?_
                  refine lV (yMove rfl) rfl rfl ?_
                  refine lV (yAssign rfl) rfl rfl ?_
                  refine lNil ?_
                  refine kThen ?_
                  refine kSeq ?_
                  have hmr : 0 ≤ ((m : Nat) : Int) ∧ ((m : Nat) : Int) ≤ X.images - 1 := by omega
                  have hs1 := sig_lt hip.1 b m
                  have hzr : 0 ≤ ((sigN (iN X) b m : Nat) : Int) ∧ ((sigN (iN X) b m : Nat) : Int) ≤ X.images - 1 := by omega
                  have hmN : m < iN X := by omega
                  refine kRegion rfl ?_
                  refine lV (yLoadA (vs := [_, _, _, _, _, _, _, _]) rfl A29 (cOwn 0 rfl rfl)) rfl rfl ?_
                  refine lV (yMove rfl) rfl rfl ?_
                  refine lV (yCall rfl (.c rfl (.c rfl .n)) C19 (fun w hw => place_any y X (m : Nat) w (hm.eff hw) hn)) rfl rfl ?_
                  refine same (t := 256) (u := outC (plaP X m, 0)) rfl (by rw [placeE_ok hM ho hmr hsn]; rfl) ?_
                  refine lV (yMove rfl) rfl rfl ?_
                  refine lV (yExtract rfl rfl) rfl rfl ?_
                  refine lV (yExtract rfl rfl) rfl rfl ?_
                  refine lE rfl ?_
                  refine eAlloc Z24 fun n41 => ?_
                  refine lE rfl ?_
                  refine eStoreL 0 rfl rfl rfl rfl K24 rfl (rfl) ?_
                  refine lV (yAssign rfl) rfl rfl ?_
                  refine lNil ?_
                  refine kThen ?_
                  refine kSeq ?_
                  refine kDrawE [(0, none), (3, none), (4, none)] [] [0, 1, 2, 3, 4, 5, 6, 7, 10] 2 hMix (by kernel_rfl) ?_
                  refine .run rfl (yLoadA (vs := [_, _, _, _, _, _, _, _]) rfl A29 (cOwn 4 rfl rfl)) rfl rfl ?_
                  refine .run rfl (yMove rfl) rfl rfl ?_
                  refine .run rfl (yMove rfl) rfl rfl ?_
                  refine .run rfl (yCall rfl (.c rfl .n) C40 (fun w hw => img_any n3 n5 b m y X w (hw.blkAt 1 rfl) (hw.blkAt 3 rfl) hM hb (by omega))) rfl rfl ?_
                  refine .run rfl (yvSame (u := outC (plaP X m, 0)) (yCall rfl (.c rfl (.c rfl .n)) C19 (fun w hw => place_any (locG y gx) (turnW X a b) (sigN (iN X) b m : Nat) w (hm.grow rfl hgx hw (.d 0 (.d 0 (.d 0 (.d 0 (.d 0 SubP.tail)))))) hYn)) (by rw [placeE_ok hY hoY hzr ((turn_seen hM a b hmN).2 hsn), Int.toNat_natCast, turn_pla hM ho a b hmN hsn])) rfl rfl ?_
                  refine .run rfl (yMove rfl) rfl rfl ?_
                  refine .run rfl (yExtract rfl rfl) rfl rfl ?_
                  refine .run rfl (yExtract rfl rfl) rfl rfl ?_
                  refine .run rfl (yAssign rfl) rfl rfl ?_
                  refine .done ?_
                  refine effStep 8 [] (by kernel_rfl) closedSt (hLeft [0, 3, 4] (by kernel_rfl) (.c (fun _ _ hs => hs.ef) (.c (fun _ _ hs => hs.ef) (.c (fun _ _ hs => hs.ef) .n)))) ?_
                  refine .c ?_ .n
                  refine effOne rfl (gNone rfl (fAlloc Z24)) ?_
                  refine effStep 9 [] (by kernel_rfl) (closedEx fun n43 => closedSt) (hLeft [0, 3, 4] (by kernel_rfl) (.c (fun _ _ ⟨n43, hs⟩ => hs.ef.sub (.c 1 rfl (.c 1 rfl (.c 1 rfl (.c 1 rfl (.c 1 rfl (.d 0 .r))))))) (.c (fun _ _ ⟨n43, hs⟩ => hs.ef.sub (.c 1 rfl (.c 1 rfl (.c 1 rfl (.c 1 rfl (.c 1 rfl (.d 0 .r))))))) (.c (fun _ _ ⟨n43, hs⟩ => hs.ef.sub (.c 1 rfl (.c 1 rfl (.c 1 rfl (.c 1 rfl (.c 1 rfl (.d 0 .r))))))) .n)))) ?_
                  refine .c ?_ .n
                  refine effOne rfl (opEx fun n43 => (gNone rfl (fStoreL 0 rfl rfl rfl rfl K24 rfl (rfl)))) ?_
                  refine effDone (closedEx fun n43 => closedSt) (hLeft [] (by kernel_rfl) .n) (by kernel_rfl) ?_
                  refine trEx fun n43 => ?_
                  refine kThen ?_
                  refine kSeq ?_
                  refine kRegion rfl ?_
                  refine lV (yLoadA (vs := [_, _]) rfl A24 (cOwn 1 rfl rfl)) rfl rfl ?_
                  refine lV (yLoadA (vs := [_, _]) rfl A24 (cOwn 0 rfl rfl)) rfl rfl ?_
                  refine lV (yNeAgg rfl rfl G24 (fun w => Q24 w)) rfl rfl ?_
                  refine knownB (t := 269) (c := false) rfl (by simp) ?_
                  refine lV (yMove rfl) rfl rfl ?_
                  refine lGY rfl rfl rfl (oV (yMove rfl) rfl ?_)
                  refine lGY rfl rfl rfl (oV (yMove rfl) rfl ?_)
                  refine lGY rfl rfl rfl (oV (yNeq rfl rfl) rfl ?_)
                  refine knownN (t := 273) rfl (fun h => h rfl) ?_
                  refine lV (yPickF rfl rfl) rfl rfl ?_
                  refine lNil ?_
                  refine kThen ?_
                  refine kIfF rfl ?_
                  refine kSkip ?_
                  refine kInN ?_
                  refine kThen ?_
                  refine kRegion rfl ?_
                  refine lV (yAdd rfl rfl (by omega)) rfl rfl ?_
                  refine lV (yMove rfl) rfl rfl ?_
                  refine lNil ?_
                  exact kRoundX (m + 1) (by omega) (by omega) rfl (.c rfl .n) (.c rfl (.c rfl (.c rfl (.c rfl (.c rfl (.c rfl (.c rfl (.c rfl (.c rfl (.c rfl (.c rfl (.c rfl (.c rfl (.c rfl (.c rfl (.c rfl (.c rfl (.c rfl (.c rfl (.c rfl (.c rfl (.c rfl (.c rfl (.c rfl (.c rfl (.c rfl (.c rfl (.c rfl (.c rfl (.c rfl (.c rfl (.c rfl (.c rfl (.c rfl (.c rfl (.c rfl (.c rfl (.c rfl (.c rfl (.c rfl (.c rfl (.c rfl (.c rfl (.c rfl (.c rfl (.c rfl (.c rfl (.c rfl (.c rfl (.c rfl (.c rfl (.c rfl (.c rfl (.c rfl (.c rfl (.c rfl (.c rfl (.c rfl (.c rfl (.c rfl (.c rfl (.c rfl (.c rfl (.c rfl (.c rfl (.c rfl (.c rfl (.c rfl (.c rfl (.c rfl (.c rfl (.c rfl (.c rfl (.c rfl (.c rfl (.c rfl (.c rfl (.c rfl (.c rfl (.c rfl (.c rfl (.c rfl (.c rfl (.c rfl (.c rfl (.c rfl (.c rfl (.c rfl (.c rfl (.c rfl (.c rfl (.c rfl (.c rfl (.c rfl (.c rfl (.c rfl (.c rfl (.c rfl (.c rfl (.c rfl (.c rfl (.c rfl (.c rfl (.c rfl (.c rfl (.c rfl (.c rfl (.c rfl (.c rfl (.c rfl (.c rfl (.c rfl (.c rfl (.c rfl (.c rfl (.c rfl (.c rfl (.c rfl (.c rfl (.c rfl (.c rfl (.c rfl (.c rfl (.c rfl (.c rfl (.c rfl (.c rfl (.c rfl (.c rfl (.c rfl (.c rfl (.c rfl (.c rfl (.c rfl (.c rfl (.c rfl (.c rfl .n))))))))))))))))))))))))))))))))))))))))))))))))))))))))))))))))))))))))))))))))))))))))))))))))))))))))))))))))))))))))))))))))))))))))) (.c 2 rfl (.c 2 rfl (.c 2 rfl (.c 2 rfl (.d 0 (.d 0 .r))))))
                · refine kRegion rfl ?_
                  refine lV (yMove rfl) rfl rfl ?_
                  refine lV (yAssign rfl) rfl rfl ?_
                  refine lNil ?_
                  refine kThen ?_
                  refine kSeq ?_
                  have hmr : 0 ≤ ((m : Nat) : Int) ∧ ((m : Nat) : Int) ≤ X.images - 1 := by omega
                  have hs1 := sig_lt hip.1 b m
                  have hzr : 0 ≤ ((sigN (iN X) b m : Nat) : Int) ∧ ((sigN (iN X) b m : Nat) : Int) ≤ X.images - 1 := by omega
                  have hmN : m < iN X := by omega
                  refine kRegion rfl ?_
                  refine lV (yLoadA (vs := [_, _, _, _, _, _, _, _]) rfl A29 (cOwn 0 rfl rfl)) rfl rfl ?_
                  refine lV (yMove rfl) rfl rfl ?_
                  refine lV (yCall rfl (.c rfl (.c rfl .n)) C19 (fun w hw => place_any y X (m : Nat) w (hm.eff hw) hn)) rfl rfl ?_
                  refine same (t := 256) (u := outC ((0, 0), 12)) rfl (by rw [placeE_doubt hM ho hmr hsn]) ?_
                  refine lV (yMove rfl) rfl rfl ?_
                  refine lV (yExtract rfl rfl) rfl rfl ?_
                  refine lV (yExtract rfl rfl) rfl rfl ?_
                  refine lE rfl ?_
                  refine eAlloc Z24 fun n41 => ?_
                  refine lE rfl ?_
                  refine eStoreL 0 rfl rfl rfl rfl K24 rfl (rfl) ?_
                  refine lV (yAssign rfl) rfl rfl ?_
                  refine lNil ?_
                  refine kThen ?_
                  refine kSeq ?_
                  refine kDrawE [(0, none), (3, none), (4, none)] [] [0, 1, 2, 3, 4, 5, 6, 7, 10] 2 hMix (by kernel_rfl) ?_
                  refine .run rfl (yLoadA (vs := [_, _, _, _, _, _, _, _]) rfl A29 (cOwn 4 rfl rfl)) rfl rfl ?_
                  refine .run rfl (yMove rfl) rfl rfl ?_
                  refine .run rfl (yMove rfl) rfl rfl ?_
                  refine .run rfl (yCall rfl (.c rfl .n) C40 (fun w hw => img_any n3 n5 b m y X w (hw.blkAt 1 rfl) (hw.blkAt 3 rfl) hM hb (by omega))) rfl rfl ?_
                  refine .run rfl (yvSame (u := outC ((0, 0), 12)) (yCall rfl (.c rfl (.c rfl .n)) C19 (fun w hw => place_any (locG y gx) (turnW X a b) (sigN (iN X) b m : Nat) w (hm.grow rfl hgx hw (.d 0 (.d 0 (.d 0 (.d 0 (.d 0 SubP.tail)))))) hYn)) (by rw [placeE_doubt hY hoY hzr fun h => hsn ((turn_seen hM a b hmN).1 h)])) rfl rfl ?_
                  refine .run rfl (yMove rfl) rfl rfl ?_
                  refine .run rfl (yExtract rfl rfl) rfl rfl ?_
                  refine .run rfl (yExtract rfl rfl) rfl rfl ?_
                  refine .run rfl (yAssign rfl) rfl rfl ?_
                  refine .done ?_
                  refine effStep 8 [] (by kernel_rfl) closedSt (hLeft [0, 3, 4] (by kernel_rfl) (.c (fun _ _ hs => hs.ef) (.c (fun _ _ hs => hs.ef) (.c (fun _ _ hs => hs.ef) .n)))) ?_
                  refine .c ?_ .n
                  refine effOne rfl (gNone rfl (fAlloc Z24)) ?_
                  refine effStep 9 [] (by kernel_rfl) (closedEx fun n43 => closedSt) (hLeft [0, 3, 4] (by kernel_rfl) (.c (fun _ _ ⟨n43, hs⟩ => hs.ef.sub (.c 1 rfl (.c 1 rfl (.c 1 rfl (.c 1 rfl (.c 1 rfl (.d 0 .r))))))) (.c (fun _ _ ⟨n43, hs⟩ => hs.ef.sub (.c 1 rfl (.c 1 rfl (.c 1 rfl (.c 1 rfl (.c 1 rfl (.d 0 .r))))))) (.c (fun _ _ ⟨n43, hs⟩ => hs.ef.sub (.c 1 rfl (.c 1 rfl (.c 1 rfl (.c 1 rfl (.c 1 rfl (.d 0 .r))))))) .n)))) ?_
                  refine .c ?_ .n
                  refine effOne rfl (opEx fun n43 => (gNone rfl (fStoreL 0 rfl rfl rfl rfl K24 rfl (rfl)))) ?_
                  refine effDone (closedEx fun n43 => closedSt) (hLeft [] (by kernel_rfl) .n) (by kernel_rfl) ?_
                  refine trEx fun n43 => ?_
                  refine kThen ?_
                  refine kSeq ?_
                  refine kRegion rfl ?_
                  refine lV (yLoadA (vs := [_, _]) rfl A24 (cOwn 1 rfl rfl)) rfl rfl ?_
                  refine lV (yLoadA (vs := [_, _]) rfl A24 (cOwn 0 rfl rfl)) rfl rfl ?_
                  refine lV (yNeAgg rfl rfl G24 (fun w => Q24 w)) rfl rfl ?_
                  refine knownB (t := 269) (c := false) rfl (by simp) ?_
                  refine lV (yMove rfl) rfl rfl ?_
                  refine lGY rfl rfl rfl (oV (yMove rfl) rfl ?_)
                  refine lGY rfl rfl rfl (oV (yMove rfl) rfl ?_)
                  refine lGY rfl rfl rfl (oV (yNeq rfl rfl) rfl ?_)
                  refine knownN (t := 273) rfl (fun h => h rfl) ?_
                  refine lV (yPickF rfl rfl) rfl rfl ?_
                  refine lNil ?_
                  refine kThen ?_
                  refine kIfF rfl ?_
                  refine kSkip ?_
                  refine kInN ?_
                  refine kThen ?_
                  refine kRegion rfl ?_
                  refine lV (yAdd rfl rfl (by omega)) rfl rfl ?_
                  refine lV (yMove rfl) rfl rfl ?_
                  refine lNil ?_
                  exact kRoundX (m + 1) (by omega) (by omega) rfl (.c rfl .n) (.c rfl (.c rfl (.c rfl (.c rfl (.c rfl (.c rfl (.c rfl (.c rfl (.c rfl (.c rfl (.c rfl (.c rfl (.c rfl (.c rfl (.c rfl (.c rfl (.c rfl (.c rfl (.c rfl (.c rfl (.c rfl (.c rfl (.c rfl (.c rfl (.c rfl (.c rfl (.c rfl (.c rfl (.c rfl (.c rfl (.c rfl (.c rfl (.c rfl (.c rfl (.c rfl (.c rfl (.c rfl (.c rfl (.c rfl (.c rfl (.c rfl (.c rfl (.c rfl (.c rfl (.c rfl (.c rfl (.c rfl (.c rfl (.c rfl (.c rfl (.c rfl (.c rfl (.c rfl (.c rfl (.c rfl (.c rfl (.c rfl (.c rfl (.c rfl (.c rfl (.c rfl (.c rfl (.c rfl (.c rfl (.c rfl (.c rfl (.c rfl (.c rfl (.c rfl (.c rfl (.c rfl (.c rfl (.c rfl (.c rfl (.c rfl (.c rfl (.c rfl (.c rfl (.c rfl (.c rfl (.c rfl (.c rfl (.c rfl (.c rfl (.c rfl (.c rfl (.c rfl (.c rfl (.c rfl (.c rfl (.c rfl (.c rfl (.c rfl (.c rfl (.c rfl (.c rfl (.c rfl (.c rfl (.c rfl (.c rfl (.c rfl (.c rfl (.c rfl (.c rfl (.c rfl (.c rfl (.c rfl (.c rfl (.c rfl (.c rfl (.c rfl (.c rfl (.c rfl (.c rfl (.c rfl (.c rfl (.c rfl (.c rfl (.c rfl (.c rfl (.c rfl (.c rfl (.c rfl (.c rfl (.c rfl (.c rfl (.c rfl (.c rfl (.c rfl (.c rfl (.c rfl (.c rfl (.c rfl (.c rfl (.c rfl (.c rfl (.c rfl .n))))))))))))))))))))))))))))))))))))))))))))))))))))))))))))))))))))))))))))))))))))))))))))))))))))))))))))))))))))))))))))))))))))))))) (.c 2 rfl (.c 2 rfl (.c 2 rfl (.c 2 rfl (.d 0 (.d 0 .r))))))
              · refine kIfF rfl ?_
                refine kExit ?_
                refine kThenX ?_
                refine kThenX ?_
                refine kInX ?_
                refine kThen ?_
                refine kSeq ?_
                refine kSeq ?_
                refine kRegion rfl ?_
                refine lV (yMove rfl) rfl rfl ?_
                refine lV (yLen rfl S27) rfl rfl ?_
                refine lV (yMove rfl) rfl rfl ?_
                refine lNil ?_
                refine kThen ?_
                refine kBlock ?_
                refine kLoopX (ι := Nat) (fun m => m ≤ X.looks.length) (fun m => [(278, i64 (m : Nat))]) [(0, _), (1, _), (2, _), (3, _), (4, _), (5, _), (46, _), (47, _), (48, _), (49, _), (50, _), (51, _), (52, _), (54, _), (55, _), (56, _), (7, _), (57, _), (8, _), (58, _), (9, _), (10, _), (11, _), (64, _), (65, _), (66, _), (67, _), (68, _), (69, _), (97, _), (98, _), (96, _), (99, _), (100, _), (14, _), (15, _), (102, _), (103, _), (101, _), (104, _), (105, _), (16, _), (17, _), (107, _), (108, _), (106, _), (109, _), (110, _), (18, _), (19, _), (112, _), (113, _), (111, _), (114, _), (115, _), (20, _), (21, _), (117, _), (118, _), (116, _), (119, _), (120, _), (22, _), (23, _), (122, _), (123, _), (121, _), (124, _), (125, _), (24, _), (25, _), (127, _), (128, _), (126, _), (129, _), (130, _), (26, _), (27, _), (132, _), (133, _), (131, _), (134, _), (135, _), (28, _), (29, _), (30, _), (136, _), (137, _), (138, _), (139, _), (140, _), (141, _), (142, _), (143, _), (144, _), (145, _), (146, _), (147, _), (148, _), (149, _), (150, _), (151, _), (152, _), (153, _), (154, _), (155, _), (156, _), (157, _), (158, _), (159, _), (160, _), (161, _), (162, _), (163, _), (164, _), (165, _), (166, _), (167, _), (168, _), (169, _), (170, _), (171, _), (172, _), (173, _), (174, _), (175, _), (176, _), (177, _), (178, _), (179, _), (180, _), (181, _), (182, _), (183, _), (184, _), (248, _), (249, _), (250, _), (251, _), (276, _), (277, _)] (fun m => []) (fun m => (osL 47 gk ++ osL 47 gx)) [(n3, _), (n4, _), (n5, _), (n10, _)] (fun m => X.looks.length - m) 0 (Nat.zero_le _) rfl (.c rfl .n) (.c rfl (.c rfl (.c rfl (.c rfl (.c rfl (.c rfl (.c rfl (.c rfl (.c rfl (.c rfl (.c rfl (.c rfl (.c rfl (.c rfl (.c rfl (.c rfl (.c rfl (.c rfl (.c rfl (.c rfl (.c rfl (.c rfl (.c rfl (.c rfl (.c rfl (.c rfl (.c rfl (.c rfl (.c rfl (.c rfl (.c rfl (.c rfl (.c rfl (.c rfl (.c rfl (.c rfl (.c rfl (.c rfl (.c rfl (.c rfl (.c rfl (.c rfl (.c rfl (.c rfl (.c rfl (.c rfl (.c rfl (.c rfl (.c rfl (.c rfl (.c rfl (.c rfl (.c rfl (.c rfl (.c rfl (.c rfl (.c rfl (.c rfl (.c rfl (.c rfl (.c rfl (.c rfl (.c rfl (.c rfl (.c rfl (.c rfl (.c rfl (.c rfl (.c rfl (.c rfl (.c rfl (.c rfl (.c rfl (.c rfl (.c rfl (.c rfl (.c rfl (.c rfl (.c rfl (.c rfl (.c rfl (.c rfl (.c rfl (.c rfl (.c rfl (.c rfl (.c rfl (.c rfl (.c rfl (.c rfl (.c rfl (.c rfl (.c rfl (.c rfl (.c rfl (.c rfl (.c rfl (.c rfl (.c rfl (.c rfl (.c rfl (.c rfl (.c rfl (.c rfl (.c rfl (.c rfl (.c rfl (.c rfl (.c rfl (.c rfl (.c rfl (.c rfl (.c rfl (.c rfl (.c rfl (.c rfl (.c rfl (.c rfl (.c rfl (.c rfl (.c rfl (.c rfl (.c rfl (.c rfl (.c rfl (.c rfl (.c rfl (.c rfl (.c rfl (.c rfl (.c rfl (.c rfl (.c rfl (.c rfl (.c rfl (.c rfl (.c rfl (.c rfl (.c rfl (.c rfl (.c rfl .n))))))))))))))))))))))))))))))))))))))))))))))))))))))))))))))))))))))))))))))))))))))))))))))))))))))))))))))))))))))))))))))))))))))))))))) (.c 0 rfl (.c 0 rfl (.c 0 rfl (.c 0 rfl .r)))) ?_
                rintro m hml
                refine kSeq ?_
                refine kRegion rfl ?_
                refine lV (yLss rfl rfl) rfl rfl ?_
                refine lNil ?_
                refine kThen ?_
                refine kSeq ?_
                refine split (t := 279) rfl (fun h279 => ?_) (fun h279 => ?_)
                · refine kIfT rfl ?_
                  refine kSkip ?_
                  refine kThen ?_
                  refine kSeq ?_
                  refine kBlock ?_
                  refine kSeq ?_
                  refine kRegion rfl ?_
                  refine lV (yMove rfl) rfl rfl ?_
                  refine lV (yAssign rfl) rfl rfl ?_
                  refine lNil ?_
                  refine kThen ?_
                  refine kSeq ?_
                  refine kDrawE [(2, none), (3, none), (5, none), (7, none), (8, none)] [] [0, 1, 2, 3, 4, 5, 6, 7, 8, 9] 0 hMix (by kernel_rfl) ?_
                  refine .run rfl (yMove rfl) rfl rfl ?_
                  refine .run rfl (yMove rfl) rfl rfl ?_
                  refine .run rfl (yIndexS  rfl rfl S27 (fun w hw => OS.rowsE (f := rowK) look0 hgk (hw.sub (.d 0 (.d 0 (.d 0 (.d 0 .r))))) (SubP.leftA _ _)) ((by omega))) rfl rfl ?_
                  refine .run rfl (yLoadA (vs := [_, _, _]) rfl A47 (cSl0 (fun w hw => OS.rowsE (f := rowK) look0 hgk (hw.sub (.d 0 (.d 0 (.d 0 (.d 0 .r))))) (SubP.leftA _ _)) ((by omega)) rfl)) rfl rfl ?_
                  refine .run rfl (yFieldAddr rfl F29_4) rfl rfl ?_
                  refine .run rfl (yLoad1 rfl O27 (cOwn 0 rfl rfl)) rfl rfl ?_
                  refine .run rfl (yMove rfl) rfl rfl ?_
                  refine .run rfl (yIndexS  rfl rfl S27 (hm.l.r) ((by omega))) rfl rfl ?_
                  refine .run rfl (yLoadA (vs := [_, _, _]) rfl A47 (cSl0 (hm.l.r) ((by omega)) rfl)) rfl rfl ?_
                  refine .run rfl (yvIs (c := false) (yNeAgg rfl rfl G47 (fun w => Q47 w)) (by simp)) rfl rfl ?_
                  refine .done ?_
                  refine effDone closedSt (hLeft [2, 3, 5, 7, 8] (by kernel_rfl) (.c (fun _ _ hs => hs.ef) (.c (fun _ _ hs => hs.ef) (.c (fun _ _ hs => hs.ef) (.c (fun _ _ hs => hs.ef) (.c (fun _ _ hs => hs.ef) .n)))))) (by kernel_rfl) ?_
                  refine kThen ?_
                  refine kIfF rfl ?_
                  refine kSkip ?_
                  refine kInN ?_
                  refine kThen ?_
                  refine kRegion rfl ?_
                  refine lV (yAdd rfl rfl (by omega)) rfl rfl ?_
                  refine lV (yMove rfl) rfl rfl ?_
                  refine lNil ?_
                  exact kRoundX (m + 1) (by omega) (by omega) rfl (.c rfl .n) (.c rfl (.c rfl (.c rfl (.c rfl (.c rfl (.c rfl (.c rfl (.c rfl (.c rfl (.c rfl (.c rfl (.c rfl (.c rfl (.c rfl (.c rfl (.c rfl (.c rfl (.c rfl (.c rfl (.c rfl (.c rfl (.c rfl (.c rfl (.c rfl (.c rfl (.c rfl (.c rfl (.c rfl (.c rfl (.c rfl (.c rfl (.c rfl (.c rfl (.c rfl (.c rfl (.c rfl (.c rfl (.c rfl (.c rfl (.c rfl (.c rfl (.c rfl (.c rfl (.c rfl (.c rfl (.c rfl (.c rfl (.c rfl (.c rfl (.c rfl (.c rfl (.c rfl (.c rfl (.c rfl (.c rfl (.c rfl (.c rfl (.c rfl (.c rfl (.c rfl (.c rfl (.c rfl (.c rfl (.c rfl (.c rfl (.c rfl (.c rfl (.c rfl (.c rfl (.c rfl (.c rfl (.c rfl (.c rfl (.c rfl (.c rfl (.c rfl (.c rfl (.c rfl (.c rfl (.c rfl (.c rfl (.c rfl (.c rfl (.c rfl (.c rfl (.c rfl (.c rfl (.c rfl (.c rfl (.c rfl (.c rfl (.c rfl (.c rfl (.c rfl (.c rfl (.c rfl (.c rfl (.c rfl (.c rfl (.c rfl (.c rfl (.c rfl (.c rfl (.c rfl (.c rfl (.c rfl (.c rfl (.c rfl (.c rfl (.c rfl (.c rfl (.c rfl (.c rfl (.c rfl (.c rfl (.c rfl (.c rfl (.c rfl (.c rfl (.c rfl (.c rfl (.c rfl (.c rfl (.c rfl (.c rfl (.c rfl (.c rfl (.c rfl (.c rfl (.c rfl (.c rfl (.c rfl (.c rfl (.c rfl (.c rfl (.c rfl (.c rfl (.c rfl (.c rfl (.c rfl (.c rfl .n))))))))))))))))))))))))))))))))))))))))))))))))))))))))))))))))))))))))))))))))))))))))))))))))))))))))))))))))))))))))))))))))))))))))))))) (.c 0 rfl (.c 0 rfl (.c 0 rfl (.c 0 rfl .r))))
                · refine kIfF rfl ?_
                  refine kExit ?_
                  refine kThenX ?_
                  refine kThenX ?_
                  refine kInX ?_
                  refine kThen ?_
                  refine kSeq ?_
                  refine kRegion rfl ?_
                  refine lV (yCall rfl .n C14 (fun w hw => awake_any w)) rfl rfl ?_
                  refine lV (yAssign rfl) rfl rfl ?_
                  refine lNil ?_
                  refine kThen ?_
                  refine kRet ?_
                  refine fRet rfl (.t rfl .n) (endRet ?_)
                  first | rfl | (simp [packV, *]; done)
          · have hil : i = X.looks.length := by omega
            rw [hil] at hgx
            have e3 : ((turnL X a b i).map rowK).length = (turnW X a b).looks.length := by rw [hil, List.length_map]; rfl
            rw [e3]
            have hcl := turn_clash hM a b
            have hdr := turn_drop hM a b
            refine kRegion rfl ?_
            refine lV (yLoadA (vs := [_, _, _, _, _, _, _, _]) rfl A29 (cOwn 0 rfl rfl)) rfl rfl ?_
            refine lV (yCall rfl (.c rfl .n) C23 (fun w hw => clash_any y X w (hm.eff hw) hn)) rfl rfl ?_
            refine same (t := 98) (u := outI (((clashN X : Nat) : Int), 0)) rfl (by rw [clashE_N hM]) ?_
            refine lV (yMove rfl) rfl rfl ?_
            refine lV (yExtract rfl rfl) rfl rfl ?_
            refine lV (yExtract rfl rfl) rfl rfl ?_
            refine lV (yAssign rfl) rfl rfl ?_
            refine lV (yAssign rfl) rfl rfl ?_
            refine lNil ?_
            refine kThen ?_
            refine kSeq ?_
            have hoY : ¬ okW (turnW X a b) := fun h => ho ((turn_okW hM a b).1 h)
            refine kRegion rfl ?_
            refine lV (yLoadA (vs := [_, _, _, _, _, _, _, _]) rfl A29 (cOwn 3 rfl rfl)) rfl rfl ?_
            refine lV (yCall rfl (.c rfl .n) C23 (fun w hw => clash_any (locG y gx) (turnW X a b) w (hm.grow rfl hgx hw (.d 0 (.d 0 (.d 0 (.d 0 SubP.tail))))) hYn)) rfl rfl ?_
            refine same (t := 103) (u := outI (((clashN (turnW X a b) : Nat) : Int), 0)) rfl (by rw [clashE_N hY]) ?_
            refine lV (yMove rfl) rfl rfl ?_
            refine lV (yExtract rfl rfl) rfl rfl ?_
            refine lV (yExtract rfl rfl) rfl rfl ?_
            refine lV (yAssign rfl) rfl rfl ?_
            refine lV (yAssign rfl) rfl rfl ?_
            refine lNil ?_
            refine kThen ?_
            refine kSeq ?_
            refine kRegion rfl ?_
            refine lV (yLoadA (vs := [_, _, _, _, _, _, _, _]) rfl A29 (cOwn 0 rfl rfl)) rfl rfl ?_
            refine lV (yCall rfl (.c rfl .n) C25 (fun w hw => drop_any y X w (hm.eff hw) hn)) rfl rfl ?_
            refine same (t := 108) (u := outI (((dropN X : Nat) : Int), 0)) rfl (by rw [dropE_N hM]) ?_
            refine lV (yMove rfl) rfl rfl ?_
            refine lV (yExtract rfl rfl) rfl rfl ?_
            refine lV (yExtract rfl rfl) rfl rfl ?_
            refine lV (yAssign rfl) rfl rfl ?_
            refine lV (yAssign rfl) rfl rfl ?_
            refine lNil ?_
            refine kThen ?_
            refine kSeq ?_
            refine kRegion rfl ?_
            refine lV (yLoadA (vs := [_, _, _, _, _, _, _, _]) rfl A29 (cOwn 3 rfl rfl)) rfl rfl ?_
            refine lV (yCall rfl (.c rfl .n) C25 (fun w hw => drop_any (locG y gx) (turnW X a b) w (hm.grow rfl hgx hw (.d 0 (.d 0 (.d 0 (.d 0 SubP.tail))))) hYn)) rfl rfl ?_
            refine same (t := 113) (u := outI (((dropN (turnW X a b) : Nat) : Int), 0)) rfl (by rw [dropE_N hY]) ?_
            refine lV (yMove rfl) rfl rfl ?_
            refine lV (yExtract rfl rfl) rfl rfl ?_
            refine lV (yExtract rfl rfl) rfl rfl ?_
            refine lV (yAssign rfl) rfl rfl ?_
            refine lV (yAssign rfl) rfl rfl ?_
            refine lNil ?_
            refine kThen ?_
            refine kSeq ?_
            refine kRegion rfl ?_
            refine lV (yLoadA (vs := [_, _, _, _, _, _, _, _]) rfl A29 (cOwn 0 rfl rfl)) rfl rfl ?_
            refine lV (yCall rfl (.c rfl .n) C21 (fun w hw => sure_any y X w (hm.eff hw) hn)) rfl rfl ?_
            refine same (t := 118) (u := outI (((0 : Nat) : Int), 10)) rfl (by rw [sureE_clash hM ho]; rfl) ?_
            refine lV (yMove rfl) rfl rfl ?_
            refine lV (yExtract rfl rfl) rfl rfl ?_
            refine lV (yExtract rfl rfl) rfl rfl ?_
            refine lV (yAssign rfl) rfl rfl ?_
            refine lV (yAssign rfl) rfl rfl ?_
            refine lNil ?_
            refine kThen ?_
            refine kSeq ?_
            refine kRegion rfl ?_
            refine lV (yLoadA (vs := [_, _, _, _, _, _, _, _]) rfl A29 (cOwn 3 rfl rfl)) rfl rfl ?_
            refine lV (yCall rfl (.c rfl .n) C21 (fun w hw => sure_any (locG y gx) (turnW X a b) w (hm.grow rfl hgx hw (.d 0 (.d 0 (.d 0 (.d 0 SubP.tail))))) hYn)) rfl rfl ?_
            refine same (t := 123) (u := outI (((0 : Nat) : Int), 10)) rfl (by rw [sureE_clash hY hoY]; rfl) ?_
            refine lV (yMove rfl) rfl rfl ?_
            refine lV (yExtract rfl rfl) rfl rfl ?_
            refine lV (yExtract rfl rfl) rfl rfl ?_
            refine lV (yAssign rfl) rfl rfl ?_
            refine lV (yAssign rfl) rfl rfl ?_
            refine lNil ?_
            refine kThen ?_
            refine kSeq ?_
            refine kRegion rfl ?_
            refine lV (yLoadA (vs := [_, _, _, _, _, _, _, _]) rfl A29 (cOwn 0 rfl rfl)) rfl rfl ?_
            refine lV (yCall rfl (.c rfl .n) C27 (fun w hw => expl_any y X w (hm.eff hw) hn)) rfl rfl ?_
            refine same (t := 128) (u := outI (((0 : Nat) : Int), 10)) rfl (by rw [explE_clash hM ho]; rfl) ?_
            refine lV (yMove rfl) rfl rfl ?_
            refine lV (yExtract rfl rfl) rfl rfl ?_
            refine lV (yExtract rfl rfl) rfl rfl ?_
            refine lV (yAssign rfl) rfl rfl ?_
            refine lV (yAssign rfl) rfl rfl ?_
            refine lNil ?_
            refine kThen ?_
            refine kSeq ?_
            refine kRegion rfl ?_
            refine lV (yLoadA (vs := [_, _, _, _, _, _, _, _]) rfl A29 (cOwn 3 rfl rfl)) rfl rfl ?_
            refine lV (yCall rfl (.c rfl .n) C27 (fun w hw => expl_any (locG y gx) (turnW X a b) w (hm.grow rfl hgx hw (.d 0 (.d 0 (.d 0 (.d 0 SubP.tail))))) hYn)) rfl rfl ?_
            refine same (t := 133) (u := outI (((0 : Nat) : Int), 10)) rfl (by rw [explE_clash hY hoY]; rfl) ?_
            refine lV (yMove rfl) rfl rfl ?_
            refine lV (yExtract rfl rfl) rfl rfl ?_
            refine lV (yExtract rfl rfl) rfl rfl ?_
            refine lV (yAssign rfl) rfl rfl ?_
            refine lV (yAssign rfl) rfl rfl ?_
            refine lNil ?_
            refine kThen ?_
            refine kSeq ?_
            refine kRegion rfl ?_
            refine lV (yAssign rfl) rfl rfl ?_
            refine lNil ?_
            refine kThen ?_
            refine kSeq ?_
            refine kSeq ?_
            refine kRegion rfl ?_
            refine lV (yMove rfl) rfl rfl ?_
            refine lV (yMove rfl) rfl rfl ?_
            refine lV (yNeq rfl rfl) rfl rfl ?_
            refine knownN (t := 138) rfl (fun h => h rfl) ?_
            refine lV (yMove rfl) rfl rfl ?_
            refine lGY rfl rfl rfl (oV (yMove rfl) rfl ?_)
            refine lGY rfl rfl rfl (oV (yMove rfl) rfl ?_)
            refine lGY rfl rfl rfl (oV (yNeq rfl rfl) rfl ?_)
            refine knownN (t := 142) rfl (fun h => h rfl) ?_
            refine lV (yPickF rfl rfl) rfl rfl ?_
            refine lV (yMove rfl) rfl rfl ?_
            refine lGY rfl rfl rfl (oV (yMove rfl) rfl ?_)
            refine lGY rfl rfl rfl (oV (yMove rfl) rfl ?_)
            refine lGY rfl rfl rfl (oV (yNeq rfl rfl) rfl ?_)
            refine knownN (t := 147) rfl (fun h => h rfl) ?_
            refine lV (yPickF rfl rfl) rfl rfl ?_
            refine lV (yMove rfl) rfl rfl ?_
            refine lGY rfl rfl rfl (oV (yMove rfl) rfl ?_)
            refine lGY rfl rfl rfl (oV (yMove rfl) rfl ?_)
            refine lGY rfl rfl rfl (oV (yNeq rfl rfl) rfl ?_)
            refine knownN (t := 152) rfl (fun h => h rfl) ?_
            refine lV (yPickF rfl rfl) rfl rfl ?_
            refine lV (yMove rfl) rfl rfl ?_
            refine lGY rfl rfl rfl (oV (yMove rfl) rfl ?_)
            refine lGY rfl rfl rfl (oV (yMove rfl) rfl ?_)
            refine lGY rfl rfl rfl (oV (yCall rfl (.c rfl .n) C33 (fun w hw => rsize_any (clashN X) w (by omega))) rfl ?_)
            refine lGY rfl rfl rfl (oV (yMove rfl) rfl ?_)
            refine lGY rfl rfl rfl (oV (yMove rfl) rfl ?_)
            refine lGY rfl rfl rfl (oV (yCall rfl (.c rfl .n) C33 (fun w hw => rsize_any (clashN (turnW X a b)) w (by omega))) rfl ?_)
            refine lGY rfl rfl rfl (oV (yNeq rfl rfl) rfl ?_)
            refine knownN (t := 161) rfl (fun h => h (by rw [hcl])) ?_
            refine lV (yPickF rfl rfl) rfl rfl ?_
            refine lV (yMove rfl) rfl rfl ?_
            refine lGY rfl rfl rfl (oV (yMove rfl) rfl ?_)
            refine lGY rfl rfl rfl (oV (yMove rfl) rfl ?_)
            refine lGY rfl rfl rfl (oV (yCall rfl (.c rfl .n) C33 (fun w hw => rsize_any (dropN X) w (by omega))) rfl ?_)
            refine lGY rfl rfl rfl (oV (yMove rfl) rfl ?_)
            refine lGY rfl rfl rfl (oV (yMove rfl) rfl ?_)
            refine lGY rfl rfl rfl (oV (yCall rfl (.c rfl .n) C33 (fun w hw => rsize_any (dropN (turnW X a b)) w (by omega))) rfl ?_)
            refine lGY rfl rfl rfl (oV (yNeq rfl rfl) rfl ?_)
            refine knownN (t := 170) rfl (fun h => h (by rw [hdr])) ?_
            refine lV (yPickF rfl rfl) rfl rfl ?_
            refine lV (yMove rfl) rfl rfl ?_
            refine lGY rfl rfl rfl (oV (yMove rfl) rfl ?_)
            refine lGY rfl rfl rfl (oV (yMove rfl) rfl ?_)
            refine lGY rfl rfl rfl (oV (yCall rfl (.c rfl .n) C33 (fun w hw => rsize_any 0 w (by omega))) rfl ?_)
            refine lGY rfl rfl rfl (oV (yMove rfl) rfl ?_)
            refine lGY rfl rfl rfl (oV (yMove rfl) rfl ?_)
            refine lGY rfl rfl rfl (oV (yCall rfl (.c rfl .n) C33 (fun w hw => rsize_any 0 w (by omega))) rfl ?_)
            refine lGY rfl rfl rfl (oV (yNeq rfl rfl) rfl ?_)
            refine knownN (t := 179) rfl (fun h => h rfl) ?_
            refine lV (yPickF rfl rfl) rfl rfl ?_
            refine lNil ?_
            refine kThen ?_
            refine kIfF rfl ?_
            refine kSkip ?_
            refine kThen ?_
            refine kSeq ?_
            refine kSeq ?_
            refine kRegion rfl ?_
            refine lV (yFieldAddr rfl F29_2) rfl rfl ?_
            refine lV (yLoad1 rfl O3 (cOwn 0 rfl rfl)) rfl rfl ?_
            refine same (t := 182) (u := i64 ((eN X : Nat) : Int)) rfl (congrArg i64 (by omega)) ?_
            refine lV (yMove rfl) rfl rfl ?_
            refine lNil ?_
            refine kThen ?_
            refine kBlock ?_
            refine kLoopX (ι := Nat) (fun m => m ≤ eN X) (fun m => [(183, i64 (m : Nat))]) [(0, _), (1, _), (2, _), (3, _), (4, _), (5, _), (46, _), (47, _), (48, _), (49, _), (50, _), (51, _), (52, _), (54, _), (55, _), (56, _), (7, _), (57, _), (8, _), (58, _), (9, _), (10, _), (11, _), (64, _), (65, _), (66, _), (67, _), (68, _), (69, _), (97, _), (98, _), (96, _), (99, _), (100, _), (14, _), (15, _), (102, _), (103, _), (101, _), (104, _), (105, _), (16, _), (17, _), (107, _), (108, _), (106, _), (109, _), (110, _), (18, _), (19, _), (112, _), (113, _), (111, _), (114, _), (115, _), (20, _), (21, _), (117, _), (118, _), (116, _), (119, _), (120, _), (22, _), (23, _), (122, _), (123, _), (121, _), (124, _), (125, _), (24, _), (25, _), (127, _), (128, _), (126, _), (129, _), (130, _), (26, _), (27, _), (132, _), (133, _), (131, _), (134, _), (135, _), (28, _), (29, _), (30, _), (136, _), (137, _), (138, _), (139, _), (140, _), (141, _), (142, _), (143, _), (144, _), (145, _), (146, _), (147, _), (148, _), (149, _), (150, _), (151, _), (152, _), (153, _), (154, _), (155, _), (156, _), (157, _), (158, _), (159, _), (160, _), (161, _), (162, _), (163, _), (164, _), (165, _), (166, _), (167, _), (168, _), (169, _), (170, _), (171, _), (172, _), (173, _), (174, _), (175, _), (176, _), (177, _), (178, _), (179, _), (180, _), (181, _), (182, _)] (fun m => []) (fun m => (osL 47 gk ++ osL 47 gx)) [(n3, _), (n4, _), (n5, _), (n10, _)] (fun m => eN X - m) 0 (Nat.zero_le _) rfl (.c rfl .n) (.c rfl (.c rfl (.c rfl (.c rfl (.c rfl (.c rfl (.c rfl (.c rfl (.c rfl (.c rfl (.c rfl (.c rfl (.c rfl (.c rfl (.c rfl (.c rfl (.c rfl (.c rfl (.c rfl (.c rfl (.c rfl (.c rfl (.c rfl (.c rfl (.c rfl (.c rfl (.c rfl (.c rfl (.c rfl (.c rfl (.c rfl (.c rfl (.c rfl (.c rfl (.c rfl (.c rfl (.c rfl (.c rfl (.c rfl (.c rfl (.c rfl (.c rfl (.c rfl (.c rfl (.c rfl (.c rfl (.c rfl (.c rfl (.c rfl (.c rfl (.c rfl (.c rfl (.c rfl (.c rfl (.c rfl (.c rfl (.c rfl (.c rfl (.c rfl (.c rfl (.c rfl (.c rfl (.c rfl (.c rfl (.c rfl (.c rfl (.c rfl (.c rfl (.c rfl (.c rfl (.c rfl (.c rfl (.c rfl (.c rfl (.c rfl (.c rfl (.c rfl (.c rfl (.c rfl (.c rfl (.c rfl (.c rfl (.c rfl (.c rfl (.c rfl (.c rfl (.c rfl (.c rfl (.c rfl (.c rfl (.c rfl (.c rfl (.c rfl (.c rfl (.c rfl (.c rfl (.c rfl (.c rfl (.c rfl (.c rfl (.c rfl (.c rfl (.c rfl (.c rfl (.c rfl (.c rfl (.c rfl (.c rfl (.c rfl (.c rfl (.c rfl (.c rfl (.c rfl (.c rfl (.c rfl (.c rfl (.c rfl (.c rfl (.c rfl (.c rfl (.c rfl (.c rfl (.c rfl (.c rfl (.c rfl (.c rfl (.c rfl (.c rfl (.c rfl (.c rfl (.c rfl (.c rfl (.c rfl .n))))))))))))))))))))))))))))))))))))))))))))))))))))))))))))))))))))))))))))))))))))))))))))))))))))))))))))))))))))))))))))))))))))) (.c 0 rfl (.c 0 rfl (.c 0 rfl (.c 0 rfl .r)))) ?_
            rintro m hml
            refine kSeq ?_
            refine kRegion rfl ?_
            refine lV (yLss rfl rfl) rfl rfl ?_
            refine lNil ?_
            refine kThen ?_
            refine kSeq ?_
            refine split (t := 184) rfl (fun h184 => ?_) (fun h184 => ?_)
            · refine kIfT rfl ?_
              refine kSkip ?_
              refine kThen ?_
              refine kSeq ?_
              refine kBlock ?_
              refine kSeq ?_
              refine kRegion rfl ?_
              refine lV (yMove rfl) rfl rfl ?_
              refine lV (yAssign rfl) rfl rfl ?_
              refine lNil ?_
              refine kThen ?_
              refine kSeq ?_
              have hmr : 0 ≤ ((m : Nat) : Int) ∧ ((m : Nat) : Int) ≤ X.eyes - 1 := by omega
              have hs1 := sig_lt hep.1 a m
              have hs0 := sig_lt hep.1 a 0
              have hzr : 0 ≤ ((sigN (eN X) a m : Nat) : Int) ∧ ((sigN (eN X) a m : Nat) : Int) ≤ X.eyes - 1 := by omega
              have hz0 : 0 ≤ ((sigN (eN X) a 0 : Nat) : Int) ∧ ((sigN (eN X) a 0 : Nat) : Int) ≤ X.eyes - 1 := by omega
              have h0r : 0 ≤ (0 : Int) ∧ (0 : Int) ≤ X.eyes - 1 := by omega
              have hmN : m < eN X := by omega
              have h0N : 0 < eN X := hep.1
              refine kRegion rfl ?_
              refine lV (yLoadA (vs := [_, _, _, _, _, _, _, _]) rfl A29 (cOwn 0 rfl rfl)) rfl rfl ?_
              refine lV (yMove rfl) rfl rfl ?_
              refine lV (yCall rfl (.c rfl (.c rfl .n)) C15 (fun w hw => habit_any y X (m : Nat) w (hm.eff hw) hn)) rfl rfl ?_
              refine same (t := 189) (u := outC ((0, 0), 10)) rfl (by rw [habitE_clash hM ho hmr]) ?_
              refine lV (yMove rfl) rfl rfl ?_
              refine lV (yExtract rfl rfl) rfl rfl ?_
              refine lV (yExtract rfl rfl) rfl rfl ?_
              refine lE rfl ?_
              refine eAlloc Z24 fun n32 => ?_
              refine lE rfl ?_
              refine eStoreL 0 rfl rfl rfl rfl K24 rfl (rfl) ?_
              refine lV (yAssign rfl) rfl rfl ?_
              refine lNil ?_
              refine kThen ?_
              refine kSeq ?_
              refine kDrawE [(0, none), (3, none), (4, none)] [] [0, 1, 2, 3, 4, 5, 6, 7, 10] 2 hMix (by kernel_rfl) ?_
              refine .run rfl (yLoadA (vs := [_, _, _, _, _, _, _, _]) rfl A29 (cOwn 4 rfl rfl)) rfl rfl ?_
              refine .run rfl (yMove rfl) rfl rfl ?_
              refine .run rfl (yMove rfl) rfl rfl ?_
              refine .run rfl (yCall rfl (.c rfl .n) C39 (fun w hw => who_any n3 n4 a m y X w (hw.blkAt 1 rfl) (hw.blkAt 2 rfl) hM ha (by omega))) rfl rfl ?_
              refine .run rfl (yvSame (u := outC ((0, 0), 10)) (yCall rfl (.c rfl (.c rfl .n)) C15 (fun w hw => habit_any (locG y gx) (turnW X a b) (sigN (eN X) a m : Nat) w (hm.grow rfl hgx hw (.d 0 (.d 0 (.d 0 (.d 0 (.d 0 SubP.tail)))))) hYn)) (by rw [habitE_clash hY hoY hzr])) rfl rfl ?_
              refine .run rfl (yMove rfl) rfl rfl ?_
              refine .run rfl (yExtract rfl rfl) rfl rfl ?_
              refine .run rfl (yExtract rfl rfl) rfl rfl ?_
              refine .run rfl (yAssign rfl) rfl rfl ?_
              refine .done ?_
              refine effStep 8 [] (by kernel_rfl) closedSt (hLeft [0, 3, 4] (by kernel_rfl) (.c (fun _ _ hs => hs.ef) (.c (fun _ _ hs => hs.ef) (.c (fun _ _ hs => hs.ef) .n)))) ?_
              refine .c ?_ .n
              refine effOne rfl (gNone rfl (fAlloc Z24)) ?_
              refine effStep 9 [] (by kernel_rfl) (closedEx fun n34 => closedSt) (hLeft [0, 3, 4] (by kernel_rfl) (.c (fun _ _ ⟨n34, hs⟩ => hs.ef.sub (.c 1 rfl (.c 1 rfl (.c 1 rfl (.c 1 rfl (.c 1 rfl (.d 0 .r))))))) (.c (fun _ _ ⟨n34, hs⟩ => hs.ef.sub (.c 1 rfl (.c 1 rfl (.c 1 rfl (.c 1 rfl (.c 1 rfl (.d 0 .r))))))) (.c (fun _ _ ⟨n34, hs⟩ => hs.ef.sub (.c 1 rfl (.c 1 rfl (.c 1 rfl (.c 1 rfl (.c 1 rfl (.d 0 .r))))))) .n)))) ?_
              refine .c ?_ .n
              refine effOne rfl (opEx fun n34 => (gNone rfl (fStoreL 0 rfl rfl rfl rfl K24 rfl (rfl)))) ?_
              refine effDone (closedEx fun n34 => closedSt) (hLeft [] (by kernel_rfl) .n) (by kernel_rfl) ?_
              refine trEx fun n34 => ?_
              refine kThen ?_
              refine kSeq ?_
              refine kRegion rfl ?_
              refine lV (yLoadA (vs := [_, _, _, _, _, _, _, _]) rfl A29 (cOwn 2 rfl rfl)) rfl rfl ?_
              refine lV (yMove rfl) rfl rfl ?_
              refine lV (yCall rfl (.c rfl (.c rfl (.c rfl .n))) C17 (fun w hw => between_any y X 0 (m : Nat) w (hm.eff hw) hn)) rfl rfl ?_
              refine same (t := 203) (u := outC ((0, 0), 10)) rfl (by rw [betwE_clash hM ho h0r hmr]) ?_
              refine lV (yMove rfl) rfl rfl ?_
              refine lV (yExtract rfl rfl) rfl rfl ?_
              refine lV (yExtract rfl rfl) rfl rfl ?_
              refine lE rfl ?_
              refine eAlloc Z24 fun n36 => ?_
              refine lE rfl ?_
              refine eStoreL 0 rfl rfl rfl rfl K24 rfl (rfl) ?_
              refine lV (yAssign rfl) rfl rfl ?_
              refine lNil ?_
              refine kThen ?_
              refine kSeq ?_
              refine kDrawE [(0, none), (2, none), (5, none), (6, none)] [] [0, 1, 2, 3, 4, 5, 6, 7, 8, 9, 12] 2 hMix (by kernel_rfl) ?_
              refine .run rfl (yLoadA (vs := [_, _, _, _, _, _, _, _]) rfl A29 (cOwn 6 rfl rfl)) rfl rfl ?_
              refine .run rfl (yMove rfl) rfl rfl ?_
              refine .run rfl (yCall rfl (.c rfl .n) C39 (fun w hw => who_any n3 n4 a 0 y X w (hw.blkAt 3 rfl) (hw.blkAt 4 rfl) hM ha (by omega))) rfl rfl ?_
              refine .run rfl (yMove rfl) rfl rfl ?_
              refine .run rfl (yMove rfl) rfl rfl ?_
              refine .run rfl (yCall rfl (.c rfl .n) C39 (fun w hw => who_any n3 n4 a m y X w (hw.blkAt 3 rfl) (hw.blkAt 4 rfl) hM ha (by omega))) rfl rfl ?_
              refine .run rfl (yvSame (u := outC ((0, 0), 10)) (yCall rfl (.c rfl (.c rfl (.c rfl .n))) C17 (fun w hw => between_any (locG y gx) (turnW X a b) (sigN (eN X) a 0 : Nat) (sigN (eN X) a m : Nat) w (hm.grow rfl hgx hw (.d 0 (.d 0 (.d 0 (.d 0 (.d 0 (.d 0 (.d 0 SubP.tail)))))))) hYn)) (by rw [betwE_clash hY hoY hz0 hzr])) rfl rfl ?_
              refine .run rfl (yMove rfl) rfl rfl ?_
              refine .run rfl (yExtract rfl rfl) rfl rfl ?_
              refine .run rfl (yExtract rfl rfl) rfl rfl ?_
              refine .run rfl (yAssign rfl) rfl rfl ?_
              refine .done ?_
              refine effStep 10 [] (by kernel_rfl) closedSt (hLeft [0, 2, 5, 6] (by kernel_rfl) (.c (fun _ _ hs => hs.ef) (.c (fun _ _ hs => hs.ef) (.c (fun _ _ hs => hs.ef) (.c (fun _ _ hs => hs.ef) .n))))) ?_
              refine .c ?_ .n
              refine effOne rfl (gNone rfl (fAlloc Z24)) ?_
              refine effStep 11 [] (by kernel_rfl) (closedEx fun n38 => closedSt) (hLeft [0, 2, 5, 6] (by kernel_rfl) (.c (fun _ _ ⟨n38, hs⟩ => hs.ef.sub (.c 1 rfl (.c 1 rfl (.c 1 rfl (.c 1 rfl (.c 1 rfl (.c 1 rfl (.c 1 rfl (.d 0 .r))))))))) (.c (fun _ _ ⟨n38, hs⟩ => hs.ef.sub (.c 1 rfl (.c 1 rfl (.c 1 rfl (.c 1 rfl (.c 1 rfl (.c 1 rfl (.c 1 rfl (.d 0 .r))))))))) (.c (fun _ _ ⟨n38, hs⟩ => hs.ef.sub (.c 1 rfl (.c 1 rfl (.c 1 rfl (.c 1 rfl (.c 1 rfl (.c 1 rfl (.c 1 rfl (.d 0 .r))))))))) (.c (fun _ _ ⟨n38, hs⟩ => hs.ef.sub (.c 1 rfl (.c 1 rfl (.c 1 rfl (.c 1 rfl (.c 1 rfl (.c 1 rfl (.c 1 rfl (.d 0 .r))))))))) .n))))) ?_
              refine .c ?_ .n
              refine effOne rfl (opEx fun n38 => (gNone rfl (fStoreL 0 rfl rfl rfl rfl K24 rfl (rfl)))) ?_
              refine effDone (closedEx fun n38 => closedSt) (hLeft [] (by kernel_rfl) .n) (by kernel_rfl) ?_
              refine trEx fun n38 => ?_
              refine kThen ?_
              refine kSeq ?_
              refine kDrawE [(0, none), (1, none), (9, none), (10, none), (26, none)] [] [0, 1, 2, 3, 4, 5, 6, 7, 8, 9, 10, 11, 12, 13, 14, 15, 16, 17, 18, 19, 20, 21, 22, 23, 24, 25, 26, 27, 28, 29, 30] 0 hMix (by kernel_rfl) ?_
              refine .run rfl (yLoadA (vs := [_, _]) rfl A24 (cOwn 3 rfl rfl)) rfl rfl ?_
              refine .run rfl (yLoadA (vs := [_, _]) rfl A24 (cOwn 2 rfl rfl)) rfl rfl ?_
              refine .run rfl (yvIs (c := false) (yNeAgg rfl rfl G24 (fun w => Q24 w)) (by simp)) rfl rfl ?_
              refine .run rfl (yMove rfl) rfl rfl ?_
              refine .runG rfl (yMove rfl) rfl rfl rfl rfl ?_
              refine .runG rfl (yMove rfl) rfl rfl rfl rfl ?_
              refine .runG rfl (yvFalse (yNeq rfl rfl) (fun h => h rfl)) rfl rfl rfl rfl ?_
              refine .run rfl (yPickF rfl rfl) rfl rfl ?_
              refine .run rfl (yMove rfl) rfl rfl ?_
              refine .runG rfl (yLoadA (vs := [_, _]) rfl A24 (cOwn 1 rfl rfl)) rfl rfl rfl rfl ?_
              refine .runG rfl (yLoadA (vs := [_, _]) rfl A24 (cOwn 0 rfl rfl)) rfl rfl rfl rfl ?_
              refine .runG rfl (yvIs (c := false) (yNeAgg rfl rfl G24 (fun w => Q24 w)) (by simp)) rfl rfl rfl rfl ?_
              refine .run rfl (yPickF rfl rfl) rfl rfl ?_
              refine .run rfl (yMove rfl) rfl rfl ?_
              refine .runG rfl (yMove rfl) rfl rfl rfl rfl ?_
              refine .runG rfl (yMove rfl) rfl rfl rfl rfl ?_
              refine .runG rfl (yvFalse (yNeq rfl rfl) (fun h => h rfl)) rfl rfl rfl rfl ?_
              refine .run rfl (yPickF rfl rfl) rfl rfl ?_
              refine .run rfl (yMove rfl) rfl rfl ?_
              refine .runG rfl (yMove rfl) rfl rfl rfl rfl ?_
              refine .runG rfl (yMove rfl) rfl rfl rfl rfl ?_
              refine .runG rfl (yShr rfl rfl rfl (by omega)) rfl rfl rfl rfl ?_
              refine .runG rfl (yAnd (b := 1) rfl rfl rfl (by first | omega | (have := Nat.div_le_self (sureN X) (2 ^ m); omega) | (have := Nat.div_le_self 0 (2 ^ m); omega)) (by first | omega | (have := Nat.div_le_self (sureN X) (2 ^ m); omega) | (have := Nat.div_le_self 0 (2 ^ m); omega))) rfl rfl rfl rfl ?_
              refine .runG rfl (yMove rfl) rfl rfl rfl rfl ?_
              refine .runG rfl (yMove rfl) rfl rfl rfl rfl ?_
              refine .runG rfl (yMove rfl) rfl rfl rfl rfl ?_
              refine .runG rfl (yCall rfl (.c rfl .n) C39 (fun w hw => who_any n3 n4 a m y X w (hw.blkAt 4 rfl) (hw.blkAt 5 rfl) hM ha (by omega))) rfl rfl rfl rfl ?_
              refine .runG rfl (yShr rfl rfl rfl (by omega)) rfl rfl rfl rfl ?_
              refine .runG rfl (yAnd (b := 1) rfl rfl rfl (by first | omega | (have := Nat.div_le_self (sureN (turnW X a b)) (2 ^ sigN (eN X) a m); omega) | (have := Nat.div_le_self 0 (2 ^ sigN (eN X) a m); omega)) (by first | omega | (have := Nat.div_le_self (sureN (turnW X a b)) (2 ^ sigN (eN X) a m); omega) | (have := Nat.div_le_self 0 (2 ^ sigN (eN X) a m); omega))) rfl rfl rfl rfl ?_
              refine .runG rfl (yvFalse (yNeq rfl rfl) (fun h => h (congrArg _ (and_same (by rw [Nat.zero_testBit, Nat.zero_testBit]))))) rfl rfl rfl rfl ?_
              refine .run rfl (yPickF rfl rfl) rfl rfl ?_
              refine .done ?_
              refine effDone closedSt (hLeft [0, 1, 9, 10, 26] (by kernel_rfl) (.c (fun _ _ hs => hs.ef) (.c (fun _ _ hs => hs.ef) (.c (fun _ _ hs => hs.ef) (.c (fun _ _ hs => hs.ef) (.c (fun _ _ hs => hs.ef) .n)))))) (by kernel_rfl) ?_
              refine kThen ?_
              refine kIfF rfl ?_
              refine kSkip ?_
              refine kInN ?_
              refine kThen ?_
              refine kRegion rfl ?_
              refine lV (yAdd rfl rfl (by omega)) rfl rfl ?_
              refine lV (yMove rfl) rfl rfl ?_
              refine lNil ?_
              exact kRoundX (m + 1) (by omega) (by omega) rfl (.c rfl .n) (.c rfl (.c rfl (.c rfl (.c rfl (.c rfl (.c rfl (.c rfl (.c rfl (.c rfl (.c rfl (.c rfl (.c rfl (.c rfl (.c rfl (.c rfl (.c rfl (.c rfl (.c rfl (.c rfl (.c rfl (.c rfl (.c rfl (.c rfl (.c rfl (.c rfl (.c rfl (.c rfl (.c rfl (.c rfl (.c rfl (.c rfl (.c rfl (.c rfl (.c rfl (.c rfl (.c rfl (.c rfl (.c rfl (.c rfl (.c rfl (.c rfl (.c rfl (.c rfl (.c rfl (.c rfl (.c rfl (.c rfl (.c rfl (.c rfl (.c rfl (.c rfl (.c rfl (.c rfl (.c rfl (.c rfl (.c rfl (.c rfl (.c rfl (.c rfl (.c rfl (.c rfl (.c rfl (.c rfl (.c rfl (.c rfl (.c rfl (.c rfl (.c rfl (.c rfl (.c rfl (.c rfl (.c rfl (.c rfl (.c rfl (.c rfl (.c rfl (.c rfl (.c rfl (.c rfl (.c rfl (.c rfl (.c rfl (.c rfl (.c rfl (.c rfl (.c rfl (.c rfl (.c rfl (.c rfl (.c rfl (.c rfl (.c rfl (.c rfl (.c rfl (.c rfl (.c rfl (.c rfl (.c rfl (.c rfl (.c rfl (.c rfl (.c rfl (.c rfl (.c rfl (.c rfl (.c rfl (.c rfl (.c rfl (.c rfl (.c rfl (.c rfl (.c rfl (.c rfl (.c rfl (.c rfl (.c rfl (.c rfl (.c rfl (.c rfl (.c rfl (.c rfl (.c rfl (.c rfl (.c rfl (.c rfl (.c rfl (.c rfl (.c rfl (.c rfl (.c rfl (.c rfl (.c rfl (.c rfl .n))))))))))))))))))))))))))))))))))))))))))))))))))))))))))))))))))))))))))))))))))))))))))))))))))))))))))))))))))))))))))))))))))))) (.c 4 rfl (.c 4 rfl (.c 4 rfl (.c 4 rfl (.d 0 (.d 0 (.d 0 (.d 0 .r))))))))
            · refine kIfF rfl ?_
              refine kExit ?_
              refine kThenX ?_
              refine kThenX ?_
              refine kInX ?_
              refine kThen ?_
              refine kSeq ?_
              refine kSeq ?_
              refine kRegion rfl ?_
              refine lV (yFieldAddr rfl F29_1) rfl rfl ?_
              refine lV (yLoad1 rfl O3 (cOwn 0 rfl rfl)) rfl rfl ?_
              refine same (t := 249) (u := i64 ((iN X : Nat) : Int)) rfl (congrArg i64 (by omega)) ?_
              refine lV (yMove rfl) rfl rfl ?_
              refine lNil ?_
              refine kThen ?_
              refine kBlock ?_
              refine kLoopX (ι := Nat) (fun m => m ≤ iN X) (fun m => [(250, i64 (m : Nat))]) [(0, _), (1, _), (2, _), (3, _), (4, _), (5, _), (46, _), (47, _), (48, _), (49, _), (50, _), (51, _), (52, _), (54, _), (55, _), (56, _), (7, _), (57, _), (8, _), (58, _), (9, _), (10, _), (11, _), (64, _), (65, _), (66, _), (67, _), (68, _), (69, _), (97, _), (98, _), (96, _), (99, _), (100, _), (14, _), (15, _), (102, _), (103, _), (101, _), (104, _), (105, _), (16, _), (17, _), (107, _), (108, _), (106, _), (109, _), (110, _), (18, _), (19, _), (112, _), (113, _), (111, _), (114, _), (115, _), (20, _), (21, _), (117, _), (118, _), (116, _), (119, _), (120, _), (22, _), (23, _), (122, _), (123, _), (121, _), (124, _), (125, _), (24, _), (25, _), (127, _), (128, _), (126, _), (129, _), (130, _), (26, _), (27, _), (132, _), (133, _), (131, _), (134, _), (135, _), (28, _), (29, _), (30, _), (136, _), (137, _), (138, _), (139, _), (140, _), (141, _), (142, _), (143, _), (144, _), (145, _), (146, _), (147, _), (148, _), (149, _), (150, _), (151, _), (152, _), (153, _), (154, _), (155, _), (156, _), (157, _), (158, _), (159, _), (160, _), (161, _), (162, _), (163, _), (164, _), (165, _), (166, _), (167, _), (168, _), (169, _), (170, _), (171, _), (172, _), (173, _), (174, _), (175, _), (176, _), (177, _), (178, _), (179, _), (180, _), (181, _), (182, _), (183, _), (184, _), (248, _), (249, _)] (fun m => []) (fun m => (osL 47 gk ++ osL 47 gx)) [(n3, _), (n4, _), (n5, _), (n10, _)] (fun m => iN X - m) 0 (Nat.zero_le _) rfl (.c rfl .n) (.c rfl (.c rfl (.c rfl (.c rfl (.c rfl (.c rfl (.c rfl (.c rfl (.c rfl (.c rfl (.c rfl (.c rfl (.c rfl (.c rfl (.c rfl (.c rfl (.c rfl (.c rfl (.c rfl (.c rfl (.c rfl (.c rfl (.c rfl (.c rfl (.c rfl (.c rfl (.c rfl (.c rfl (.c rfl (.c rfl (.c rfl (.c rfl (.c rfl (.c rfl (.c rfl (.c rfl (.c rfl (.c rfl (.c rfl (.c rfl (.c rfl (.c rfl (.c rfl (.c rfl (.c rfl (.c rfl (.c rfl (.c rfl (.c rfl (.c rfl (.c rfl (.c rfl (.c rfl (.c rfl (.c rfl (.c rfl (.c rfl (.c rfl (.c rfl (.c rfl (.c rfl (.c rfl (.c rfl (.c rfl (.c rfl (.c rfl (.c rfl (.c rfl (.c rfl (.c rfl (.c rfl (.c rfl (.c rfl (.c rfl (.c rfl (.c rfl (.c rfl (.c rfl (.c rfl (.c rfl (.c rfl (.c rfl (.c rfl (.c rfl (.c rfl (.c rfl (.c rfl (.c rfl (.c rfl (.c rfl (.c rfl (.c rfl (.c rfl (.c rfl (.c rfl (.c rfl (.c rfl (.c rfl (.c rfl (.c rfl (.c rfl (.c rfl (.c rfl (.c rfl (.c rfl (.c rfl (.c rfl (.c rfl (.c rfl (.c rfl (.c rfl (.c rfl (.c rfl (.c rfl (.c rfl (.c rfl (.c rfl (.c rfl (.c rfl (.c rfl (.c rfl (.c rfl (.c rfl (.c rfl (.c rfl (.c rfl (.c rfl (.c rfl (.c rfl (.c rfl (.c rfl (.c rfl (.c rfl (.c rfl (.c rfl (.c rfl (.c rfl .n))))))))))))))))))))))))))))))))))))))))))))))))))))))))))))))))))))))))))))))))))))))))))))))))))))))))))))))))))))))))))))))))))))))))) (.c 0 rfl (.c 0 rfl (.c 0 rfl (.c 0 rfl .r)))) ?_
              rintro m hml
              refine kSeq ?_
              refine kRegion rfl ?_
              refine lV (yLss rfl rfl) rfl rfl ?_
              refine lNil ?_
              refine kThen ?_
              refine kSeq ?_
              refine split (t := 251) rfl (fun h251 => ?_) (fun h251 => ?_)
              · refine kIfT rfl ?_
                refine kSkip ?_
                refine kThen ?_
                refine kSeq ?_
                refine kBlock ?_
                refine kSeq ?_
                refine kRegion rfl ?_
                refine lV (yMove rfl) rfl rfl ?_
                refine lV (yAssign rfl) rfl rfl ?_
                refine lNil ?_
                refine kThen ?_
                refine kSeq ?_
                have hmr : 0 ≤ ((m : Nat) : Int) ∧ ((m : Nat) : Int) ≤ X.images - 1 := by omega
                have hs1 := sig_lt hip.1 b m
                have hzr : 0 ≤ ((sigN (iN X) b m : Nat) : Int) ∧ ((sigN (iN X) b m : Nat) : Int) ≤ X.images - 1 := by omega
                have hmN : m < iN X := by omega
                refine kRegion rfl ?_
                refine lV (yLoadA (vs := [_, _, _, _, _, _, _, _]) rfl A29 (cOwn 0 rfl rfl)) rfl rfl ?_
                refine lV (yMove rfl) rfl rfl ?_
                refine lV (yCall rfl (.c rfl (.c rfl .n)) C19 (fun w hw => place_any y X (m : Nat) w (hm.eff hw) hn)) rfl rfl ?_
                refine same (t := 256) (u := outC ((0, 0), 10)) rfl (by rw [placeE_clash hM ho hmr]) ?_
                refine lV (yMove rfl) rfl rfl ?_
                refine lV (yExtract rfl rfl) rfl rfl ?_
                refine lV (yExtract rfl rfl) rfl rfl ?_
                refine lE rfl ?_
                refine eAlloc Z24 fun n41 => ?_
                refine lE rfl ?_
                refine eStoreL 0 rfl rfl rfl rfl K24 rfl (rfl) ?_
                refine lV (yAssign rfl) rfl rfl ?_
                refine lNil ?_
                refine kThen ?_
                refine kSeq ?_
                refine kDrawE [(0, none), (3, none), (4, none)] [] [0, 1, 2, 3, 4, 5, 6, 7, 10] 2 hMix (by kernel_rfl) ?_
                refine .run rfl (yLoadA (vs := [_, _, _, _, _, _, _, _]) rfl A29 (cOwn 4 rfl rfl)) rfl rfl ?_
                refine .run rfl (yMove rfl) rfl rfl ?_
                refine .run rfl (yMove rfl) rfl rfl ?_
                refine .run rfl (yCall rfl (.c rfl .n) C40 (fun w hw => img_any n3 n5 b m y X w (hw.blkAt 1 rfl) (hw.blkAt 3 rfl) hM hb (by omega))) rfl rfl ?_
                refine .run rfl (yvSame (u := outC ((0, 0), 10)) (yCall rfl (.c rfl (.c rfl .n)) C19 (fun w hw => place_any (locG y gx) (turnW X a b) (sigN (iN X) b m : Nat) w (hm.grow rfl hgx hw (.d 0 (.d 0 (.d 0 (.d 0 (.d 0 SubP.tail)))))) hYn)) (by rw [placeE_clash hY hoY hzr])) rfl rfl ?_
                refine .run rfl (yMove rfl) rfl rfl ?_
                refine .run rfl (yExtract rfl rfl) rfl rfl ?_
                refine .run rfl (yExtract rfl rfl) rfl rfl ?_
                refine .run rfl (yAssign rfl) rfl rfl ?_
                refine .done ?_
                refine effStep 8 [] (by kernel_rfl) closedSt (hLeft [0, 3, 4] (by kernel_rfl) (.c (fun _ _ hs => hs.ef) (.c (fun _ _ hs => hs.ef) (.c (fun _ _ hs => hs.ef) .n)))) ?_
                refine .c ?_ .n
                refine effOne rfl (gNone rfl (fAlloc Z24)) ?_
                refine effStep 9 [] (by kernel_rfl) (closedEx fun n43 => closedSt) (hLeft [0, 3, 4] (by kernel_rfl) (.c (fun _ _ ⟨n43, hs⟩ => hs.ef.sub (.c 1 rfl (.c 1 rfl (.c 1 rfl (.c 1 rfl (.c 1 rfl (.d 0 .r))))))) (.c (fun _ _ ⟨n43, hs⟩ => hs.ef.sub (.c 1 rfl (.c 1 rfl (.c 1 rfl (.c 1 rfl (.c 1 rfl (.d 0 .r))))))) (.c (fun _ _ ⟨n43, hs⟩ => hs.ef.sub (.c 1 rfl (.c 1 rfl (.c 1 rfl (.c 1 rfl (.c 1 rfl (.d 0 .r))))))) .n)))) ?_
                refine .c ?_ .n
                refine effOne rfl (opEx fun n43 => (gNone rfl (fStoreL 0 rfl rfl rfl rfl K24 rfl (rfl)))) ?_
                refine effDone (closedEx fun n43 => closedSt) (hLeft [] (by kernel_rfl) .n) (by kernel_rfl) ?_
                refine trEx fun n43 => ?_
                refine kThen ?_
                refine kSeq ?_
                refine kRegion rfl ?_
                refine lV (yLoadA (vs := [_, _]) rfl A24 (cOwn 1 rfl rfl)) rfl rfl ?_
                refine lV (yLoadA (vs := [_, _]) rfl A24 (cOwn 0 rfl rfl)) rfl rfl ?_
                refine lV (yNeAgg rfl rfl G24 (fun w => Q24 w)) rfl rfl ?_
                refine knownB (t := 269) (c := false) rfl (by simp) ?_
                refine lV (yMove rfl) rfl rfl ?_
                refine lGY rfl rfl rfl (oV (yMove rfl) rfl ?_)
                refine lGY rfl rfl rfl (oV (yMove rfl) rfl ?_)
                refine lGY rfl rfl rfl (oV (yNeq rfl rfl) rfl ?_)
                refine knownN (t := 273) rfl (fun h => h rfl) ?_
                refine lV (yPickF rfl rfl) rfl rfl ?_
                refine lNil ?_
                refine kThen ?_
                refine kIfF rfl ?_
                refine kSkip ?_
                refine kInN ?_
                refine kThen ?_
                refine kRegion rfl ?_
                refine lV (yAdd rfl rfl (by omega)) rfl rfl ?_
                refine lV (yMove rfl) rfl rfl ?_
                refine lNil ?_
                exact kRoundX (m + 1) (by omega) (by omega) rfl (.c rfl .n) (.c rfl (.c rfl (.c rfl (.c rfl (.c rfl (.c rfl (.c rfl (.c rfl (.c rfl (.c rfl (.c rfl (.c rfl (.c rfl (.c rfl (.c rfl (.c rfl (.c rfl (.c rfl (.c rfl (.c rfl (.c rfl (.c rfl (.c rfl (.c rfl (.c rfl (.c rfl (.c rfl (.c rfl (.c rfl (.c rfl (.c rfl (.c rfl (.c rfl (.c rfl (.c rfl (.c rfl (.c rfl (.c rfl (.c rfl (.c rfl (.c rfl (.c rfl (.c rfl (.c rfl (.c rfl (.c rfl (.c rfl (.c rfl (.c rfl (.c rfl (.c rfl (.c rfl (.c rfl (.c rfl (.c rfl (.c rfl (.c rfl (.c rfl (.c rfl (.c rfl (.c rfl (.c rfl (.c rfl (.c rfl (.c rfl (.c rfl (.c rfl (.c rfl (.c rfl (.c rfl (.c rfl (.c rfl (.c rfl (.c rfl (.c rfl (.c rfl (.c rfl (.c rfl (.c rfl (.c rfl (.c rfl (.c rfl (.c rfl (.c rfl (.c rfl (.c rfl (.c rfl (.c rfl (.c rfl (.c rfl (.c rfl (.c rfl (.c rfl (.c rfl (.c rfl (.c rfl (.c rfl (.c rfl (.c rfl (.c rfl (.c rfl (.c rfl (.c rfl (.c rfl (.c rfl (.c rfl (.c rfl (.c rfl (.c rfl (.c rfl (.c rfl (.c rfl (.c rfl (.c rfl (.c rfl (.c rfl (.c rfl (.c rfl (.c rfl (.c rfl (.c rfl (.c rfl (.c rfl (.c rfl (.c rfl (.c rfl (.c rfl (.c rfl (.c rfl (.c rfl (.c rfl (.c rfl (.c rfl (.c rfl (.c rfl (.c rfl (.c rfl .n))))))))))))))))))))))))))))))))))))))))))))))))))))))))))))))))))))))))))))))))))))))))))))))))))))))))))))))))))))))))))))))))))))))))) (.c 2 rfl (.c 2 rfl (.c 2 rfl (.c 2 rfl (.d 0 (.d 0 .r))))))
              · refine kIfF rfl ?_
                refine kExit ?_
                refine kThenX ?_
                refine kThenX ?_
                refine kInX ?_
                refine kThen ?_
                refine kSeq ?_
                refine kSeq ?_
                refine kRegion rfl ?_
                refine lV (yMove rfl) rfl rfl ?_
                refine lV (yLen rfl S27) rfl rfl ?_
                refine lV (yMove rfl) rfl rfl ?_
                refine lNil ?_
                refine kThen ?_
                refine kBlock ?_
                refine kLoopX (ι := Nat) (fun m => m ≤ X.looks.length) (fun m => [(278, i64 (m : Nat))]) [(0, _), (1, _), (2, _), (3, _), (4, _), (5, _), (46, _), (47, _), (48, _), (49, _), (50, _), (51, _), (52, _), (54, _), (55, _), (56, _), (7, _), (57, _), (8, _), (58, _), (9, _), (10, _), (11, _), (64, _), (65, _), (66, _), (67, _), (68, _), (69, _), (97, _), (98, _), (96, _), (99, _), (100, _), (14, _), (15, _), (102, _), (103, _), (101, _), (104, _), (105, _), (16, _), (17, _), (107, _), (108, _), (106, _), (109, _), (110, _), (18, _), (19, _), (112, _), (113, _), (111, _), (114, _), (115, _), (20, _), (21, _), (117, _), (118, _), (116, _), (119, _), (120, _), (22, _), (23, _), (122, _), (123, _), (121, _), (124, _), (125, _), (24, _), (25, _), (127, _), (128, _), (126, _), (129, _), (130, _), (26, _), (27, _), (132, _), (133, _), (131, _), (134, _), (135, _), (28, _), (29, _), (30, _), (136, _), (137, _), (138, _), (139, _), (140, _), (141, _), (142, _), (143, _), (144, _), (145, _), (146, _), (147, _), (148, _), (149, _), (150, _), (151, _), (152, _), (153, _), (154, _), (155, _), (156, _), (157, _), (158, _), (159, _), (160, _), (161, _), (162, _), (163, _), (164, _), (165, _), (166, _), (167, _), (168, _), (169, _), (170, _), (171, _), (172, _), (173, _), (174, _), (175, _), (176, _), (177, _), (178, _), (179, _), (180, _), (181, _), (182, _), (183, _), (184, _), (248, _), (249, _), (250, _), (251, _), (276, _), (277, _)] (fun m => []) (fun m => (osL 47 gk ++ osL 47 gx)) [(n3, _), (n4, _), (n5, _), (n10, _)] (fun m => X.looks.length - m) 0 (Nat.zero_le _) rfl (.c rfl .n) (.c rfl (.c rfl (.c rfl (.c rfl (.c rfl (.c rfl (.c rfl (.c rfl (.c rfl (.c rfl (.c rfl (.c rfl (.c rfl (.c rfl (.c rfl (.c rfl (.c rfl (.c rfl (.c rfl (.c rfl (.c rfl (.c rfl (.c rfl (.c rfl (.c rfl (.c rfl (.c rfl (.c rfl (.c rfl (.c rfl (.c rfl (.c rfl (.c rfl (.c rfl (.c rfl (.c rfl (.c rfl (.c rfl (.c rfl (.c rfl (.c rfl (.c rfl (.c rfl (.c rfl (.c rfl (.c rfl (.c rfl (.c rfl (.c rfl (.c rfl (.c rfl (.c rfl (.c rfl (.c rfl (.c rfl (.c rfl (.c rfl (.c rfl (.c rfl (.c rfl (.c rfl (.c rfl (.c rfl (.c rfl (.c rfl (.c rfl (.c rfl (.c rfl (.c rfl (.c rfl (.c rfl (.c rfl (.c rfl (.c rfl (.c rfl (.c rfl (.c rfl (.c rfl (.c rfl (.c rfl (.c rfl (.c rfl (.c rfl (.c rfl (.c rfl (.c rfl (.c rfl (.c rfl (.c rfl (.c rfl (.c rfl (.c rfl (.c rfl (.c rfl (.c rfl (.c rfl (.c rfl (.c rfl (.c rfl (.c rfl (.c rfl (.c rfl (.c rfl (.c rfl (.c rfl (.c rfl (.c rfl (.c rfl (.c rfl (.c rfl (.c rfl (.c rfl (.c rfl (.c rfl (.c rfl (.c rfl (.c rfl (.c rfl (.c rfl (.c rfl (.c rfl (.c rfl (.c rfl (.c rfl (.c rfl (.c rfl (.c rfl (.c rfl (.c rfl (.c rfl (.c rfl (.c rfl (.c rfl (.c rfl (.c rfl (.c rfl (.c rfl (.c rfl (.c rfl (.c rfl (.c rfl .n))))))))))))))))))))))))))))))))))))))))))))))))))))))))))))))))))))))))))))))))))))))))))))))))))))))))))))))))))))))))))))))))))))))))))))) (.c 0 rfl (.c 0 rfl (.c 0 rfl (.c 0 rfl .r)))) ?_
                rintro m hml
                refine kSeq ?_
                refine kRegion rfl ?_
                refine lV (yLss rfl rfl) rfl rfl ?_
                refine lNil ?_
                refine kThen ?_
                refine kSeq ?_
                refine split (t := 279) rfl (fun h279 => ?_) (fun h279 => ?_)
                · refine kIfT rfl ?_
                  refine kSkip ?_
                  refine kThen ?_
                  refine kSeq ?_
                  refine kBlock ?_
                  refine kSeq ?_
                  refine kRegion rfl ?_
                  refine lV (yMove rfl) rfl rfl ?_
                  refine lV (yAssign rfl) rfl rfl ?_
                  refine lNil ?_
                  refine kThen ?_
                  refine kSeq ?_
                  refine kDrawE [(2, none), (3, none), (5, none), (7, none), (8, none)] [] [0, 1, 2, 3, 4, 5, 6, 7, 8, 9] 0 hMix (by kernel_rfl) ?_
                  refine .run rfl (yMove rfl) rfl rfl ?_
                  refine .run rfl (yMove rfl) rfl rfl ?_
                  refine .run rfl (yIndexS  rfl rfl S27 (fun w hw => OS.rowsE (f := rowK) look0 hgk (hw.sub (.d 0 (.d 0 (.d 0 (.d 0 .r))))) (SubP.leftA _ _)) ((by omega))) rfl rfl ?_
                  refine .run rfl (yLoadA (vs := [_, _, _]) rfl A47 (cSl0 (fun w hw => OS.rowsE (f := rowK) look0 hgk (hw.sub (.d 0 (.d 0 (.d 0 (.d 0 .r))))) (SubP.leftA _ _)) ((by omega)) rfl)) rfl rfl ?_
                  refine .run rfl (yFieldAddr rfl F29_4) rfl rfl ?_
                  refine .run rfl (yLoad1 rfl O27 (cOwn 0 rfl rfl)) rfl rfl ?_
                  refine .run rfl (yMove rfl) rfl rfl ?_
                  refine .run rfl (yIndexS  rfl rfl S27 (hm.l.r) ((by omega))) rfl rfl ?_
                  refine .run rfl (yLoadA (vs := [_, _, _]) rfl A47 (cSl0 (hm.l.r) ((by omega)) rfl)) rfl rfl ?_
                  refine .run rfl (yvIs (c := false) (yNeAgg rfl rfl G47 (fun w => Q47 w)) (by simp)) rfl rfl ?_
                  refine .done ?_
                  refine effDone closedSt (hLeft [2, 3, 5, 7, 8] (by kernel_rfl) (.c (fun _ _ hs => hs.ef) (.c (fun _ _ hs => hs.ef) (.c (fun _ _ hs => hs.ef) (.c (fun _ _ hs => hs.ef) (.c (fun _ _ hs => hs.ef) .n)))))) (by kernel_rfl) ?_
                  refine kThen ?_
                  refine kIfF rfl ?_
                  refine kSkip ?_
                  refine kInN ?_
                  refine kThen ?_
                  refine kRegion rfl ?_
                  refine lV (yAdd rfl rfl (by omega)) rfl rfl ?_
                  refine lV (yMove rfl) rfl rfl ?_
                  refine lNil ?_
                  exact kRoundX (m + 1) (by omega) (by omega) rfl (.c rfl .n) (.c rfl (.c rfl (.c rfl (.c rfl (.c rfl (.c rfl (.c rfl (.c rfl (.c rfl (.c rfl (.c rfl (.c rfl (.c rfl (.c rfl (.c rfl (.c rfl (.c rfl (.c rfl (.c rfl (.c rfl (.c rfl (.c rfl (.c rfl (.c rfl (.c rfl (.c rfl (.c rfl (.c rfl (.c rfl (.c rfl (.c rfl (.c rfl (.c rfl (.c rfl (.c rfl (.c rfl (.c rfl (.c rfl (.c rfl (.c rfl (.c rfl (.c rfl (.c rfl (.c rfl (.c rfl (.c rfl (.c rfl (.c rfl (.c rfl (.c rfl (.c rfl (.c rfl (.c rfl (.c rfl (.c rfl (.c rfl (.c rfl (.c rfl (.c rfl (.c rfl (.c rfl (.c rfl (.c rfl (.c rfl (.c rfl (.c rfl (.c rfl (.c rfl (.c rfl (.c rfl (.c rfl (.c rfl (.c rfl (.c rfl (.c rfl (.c rfl (.c rfl (.c rfl (.c rfl (.c rfl (.c rfl (.c rfl (.c rfl (.c rfl (.c rfl (.c rfl (.c rfl (.c rfl (.c rfl (.c rfl (.c rfl (.c rfl (.c rfl (.c rfl (.c rfl (.c rfl (.c rfl (.c rfl (.c rfl (.c rfl (.c rfl (.c rfl (.c rfl (.c rfl (.c rfl (.c rfl (.c rfl (.c rfl (.c rfl (.c rfl (.c rfl (.c rfl (.c rfl (.c rfl (.c rfl (.c rfl (.c rfl (.c rfl (.c rfl (.c rfl (.c rfl (.c rfl (.c rfl (.c rfl (.c rfl (.c rfl (.c rfl (.c rfl (.c rfl (.c rfl (.c rfl (.c rfl (.c rfl (.c rfl (.c rfl (.c rfl (.c rfl (.c rfl (.c rfl (.c rfl (.c rfl .n))))))))))))))))))))))))))))))))))))))))))))))))))))))))))))))))))))))))))))))))))))))))))))))))))))))))))))))))))))))))))))))))))))))))))))) (.c 0 rfl (.c 0 rfl (.c 0 rfl (.c 0 rfl .r))))
                · refine kIfF rfl ?_
                  refine kExit ?_
                  refine kThenX ?_
                  refine kThenX ?_
                  refine kInX ?_
                  refine kThen ?_
                  refine kSeq ?_
                  refine kRegion rfl ?_
                  refine lV (yCall rfl .n C14 (fun w hw => awake_any w)) rfl rfl ?_
                  refine lV (yAssign rfl) rfl rfl ?_
                  refine lNil ?_
                  refine kThen ?_
                  refine kRet ?_
                  refine fRet rfl (.t rfl .n) (endRet ?_)
                  first | rfl | (simp [packV, *]; done)
end Go.Proofs.Ytiaaidcdoenloaa
