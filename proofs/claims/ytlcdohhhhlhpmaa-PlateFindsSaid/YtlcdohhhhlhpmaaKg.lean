/-
  Walks: where the document finds a place of the sky, of a plate that has a truth.
-/
import Derived.Test.YtlcdohhhhlhpmaaKf
namespace Go.Proofs.Ytlcdohhhhlhpmaa
open ZW

def arrF (p : Plt) (e n : Int) : Nat → List Value
  | 0 => [i64 0, i64 0, i64 0, i64 0]
  | 1 => [i64 (findH p false e).lo, i64 (findH p false e).hi, i64 0, i64 0]
  | _ => [i64 (findH p false e).lo, i64 (findH p false e).hi, i64 (findH p true n).lo, i64 (findH p true n).hi]
set_option maxRecDepth 100000 in
set_option maxHeartbeats 8000000 in
theorem rfind_ok (y : Option Addr × Nat) (p : Plt) (e n : Int) (w : World) (hm : InP w y p) (h : toldE p (isSkyB e && isSkyB n) = 0) : Calls Try.prog 25 [.agg (pltC y p).toArray, i64 e, i64 n].toArray w (Ret w (outC2 (findE p e n))) := by
  obtain ⟨ht, hk⟩ := toldE_ok h
  obtain ⟨hp, hbb, hs⟩ := truthE_ok ht
  rw [Bool.and_eq_true] at hbb
  have he := of_decide_eq_true hbb.1
  have hn := of_decide_eq_true hbb.2
  have hl := hp.n
  have hsl := scales_len hp
  have e0 : findE p e n = if (findH p false e).some = true ∧ (findH p true n).some = true then (spanE (findH p false e), spanE (findH p true n), 0) else ((0, 0), (0, 0), 4) := by unfold findE; rw [if_neg (not_not_intro h)]
  rw [e0]
  refine fEnter Try.func25 rfl Try.ntmps25 rfl ?_
  refine kSeq ?_
  refine kRegion rfl ?_
  refine lE rfl ?_
  refine eBoxA rfl fun n3 => ?_
  refine lE rfl ?_
  refine eAlloc Z23 fun n6 => ?_
  refine lE rfl ?_
  refine eAlloc Z23 fun n7 => ?_
  refine lV (yAssign rfl) rfl rfl ?_
  refine lNil ?_
  refine kThen ?_
  refine kSeq ?_
  refine kDrawE [(0, none), (2, none), (5, none)] [] [0, 1, 2, 3, 4, 5, 6] 6 hMix (by kernel_rfl) ?_
  refine .run rfl (yLoadA (vs := [_, _, _]) rfl A26 (cOwn 2 rfl rfl)) rfl rfl ?_
  refine .run rfl (yMove rfl) rfl rfl ?_
  refine .run rfl (yvIs (c := true) (yCall rfl (.c rfl (.c rfl (.c rfl .n))) C77 (fun w hw => rin_any _ _ _ w)) (hbb.1)) rfl rfl ?_
  refine .run rfl (yMove rfl) rfl rfl ?_
  refine .runG rfl (yMove rfl) rfl rfl rfl rfl ?_
  refine .runG rfl (yvIs (c := true) (yCall rfl (.c rfl (.c rfl (.c rfl .n))) C77 (fun w hw => rin_any _ _ _ w)) (hbb.2)) rfl rfl rfl rfl ?_
  refine .run rfl (yPickT rfl rfl) rfl rfl ?_
  refine .done ?_
  refine effStep 7 [] (by kernel_rfl) closedSt (hLeft [0, 2, 5] (by kernel_rfl) (.c (fun _ _ hs => hs.ef) (.c (fun _ _ hs => hs.ef) (.c (fun _ _ hs => hs.ef) .n)))) ?_
  refine .c ?_ .n
  refine effOne rfl (gNone rfl (fCallO rfl (.c rfl (.c rfl .n)) C60 (fun w hw => rdoubt_ok y p w (hm.eff0 hw) hp hs hk))) ?_
  refine effStep 8 [] (by kernel_rfl) (closedEx fun g => closedSt) (hLeft [] (by kernel_rfl) .n) ?_
  refine .c ?_ .n
  refine effOne rfl (opEx fun g => (gNone rfl (fV (yMove rfl) rfl))) ?_
  refine effStep 9 [10] (by kernel_rfl) (closedEx fun g => closedSt) (hLeft [] (by kernel_rfl) .n) ?_
  refine (.c ?_ (.c ?_ .n))
  · refine effOne rfl (opEx fun g => (gNone rfl (fV (yExtract rfl rfl) rfl))) ?_
    refine effStep 10 [11] (by kernel_rfl) (closedEx fun g => closedSt) (hLeft [] (by kernel_rfl) .n) ?_
    refine (.c ?_ (.c ?_ .n))
    · refine effOne rfl (opEx fun g => (gNone rfl (fV (yExtract rfl rfl) rfl))) ?_
      refine effStep 11 [] (by kernel_rfl) (closedEx fun g => closedSt) (hLeft [] (by kernel_rfl) .n) ?_
      refine .c ?_ .n
      refine effOne rfl (opEx fun g => (gNone rfl (fV (yAssign rfl) rfl))) ?_
      refine effStep 12 [] (by kernel_rfl) (closedEx fun g => closedSt) (hLeft [] (by kernel_rfl) .n) ?_
      refine .c ?_ .n
      refine effOne rfl (opEx fun g => (gNone rfl (fV (yAssign rfl) rfl))) ?_
      refine effDone (closedEx fun g => closedSt) (hLeft [] (by kernel_rfl) .n) (by kernel_rfl) ?_
      refine trEx fun g => ?_
      refine kThen ?_
      refine kSeq ?_
      refine kSeq ?_
      refine kRegion rfl ?_
      refine lV (yMove rfl) rfl rfl ?_
      refine lV (yNeq rfl rfl) rfl rfl ?_
      refine knownB (t := 30) (c := false) rfl (by simp) ?_
      refine lNil ?_
      refine kThen ?_
      refine kIfF rfl ?_
      refine kSkip ?_
      refine kThen ?_
      refine kSeq ?_
      refine kRegion rfl ?_
      refine lE rfl ?_
      refine eAlloc Z97 fun n11 => ?_
      refine lNil ?_
      refine kThen ?_
      refine kSeq ?_
      refine kSeq ?_
      refine kRegion rfl ?_
      refine lV (yAssign rfl) rfl rfl ?_
      refine lNil ?_
      refine kThen ?_
      refine kBlock ?_
      refine kLoopX (ι := Nat) (fun k => k ≤ 2 ∧ (1 ≤ k → (findH p false e).some = true) ∧ (2 ≤ k → (findH p true n).some = true)) (fun k => [(12, i64 (k : Nat))]) [(0, _), (1, _), (2, _), (3, _), (6, _), (7, _), (19, _), (20, _), (21, _), (22, _), (23, _), (24, _), (25, _), (26, _), (18, _), (27, _), (28, _), (9, _), (10, _), (29, _), (30, _), (11, _)] (fun k => []) (fun k => ([(n11, blk (arrF p e n k) 97)] ++ osL 3 g.1)) [(n7, _), (n6, _), (n3, _)] (fun k => 2 - k) 0 (⟨by omega, fun h => absurd h (by omega), fun h => absurd h (by omega)⟩) rfl (.c rfl .n) (.c rfl (.c rfl (.c rfl (.c rfl (.c rfl (.c rfl (.c rfl (.c rfl (.c rfl (.c rfl (.c rfl (.c rfl (.c rfl (.c rfl (.c rfl (.c rfl (.c rfl (.c rfl (.c rfl (.c rfl (.c rfl (.c rfl .n)))))))))))))))))))))) (.c 1 rfl (.c 1 rfl (.c 1 rfl (.c 0 rfl .r)))) ?_
      rintro k ⟨hk2, hf1, hf2⟩
      refine kSeq ?_
      refine kSeq ?_
      have hgl : ((scalesP p (knownP p)).map rowI).length = (scalesP p (knownP p)).length := List.length_map _
      refine kRegion rfl ?_
      refine lV (yMove rfl) rfl rfl ?_
      refine lV (yLss rfl rfl) rfl rfl ?_
      refine lNil ?_
      refine kThen ?_
      refine split (t := 35) rfl (fun h35 => ?_) (fun h35 => ?_)
      · refine kIfT rfl ?_
        refine kSkip ?_
        refine kThen ?_
        refine kSeq ?_
        refine kBlock ?_
        refine kSeq ?_
        by_cases hk0 : k = 0
        · obtain rfl : k = 0 := hk0
          refine kRegion rfl ?_
          refine lV (yMove rfl) rfl rfl ?_
          refine lV (yMove rfl) rfl rfl ?_
          refine lE rfl ?_
          refine eBuildSlice (.c rfl (.c rfl .n)) (fun w => BS56_2_0_1 w) fun n40 => ?_
          refine lV (yMove rfl) rfl rfl ?_
          refine lV (yIndexS  rfl rfl S56 ((fun w hw => sleRows (f := rowI) (fun _ => rfl) 0 [e, n] rfl (hw.blkAt 0 rfl))) ((Nat.le_of_ble_eq_true rfl))) rfl rfl ?_
          refine lV (yLoad1 rfl O3 (cSl0 ((fun w hw => sleRows (f := rowI) (fun _ => rfl) 0 [e, n] rfl (hw.blkAt 0 rfl))) ((Nat.le_of_ble_eq_true rfl)) rfl)) rfl rfl ?_
          refine same (t := 43) (u := i64 e) rfl (rfl) ?_
          refine lV (yAssign rfl) rfl rfl ?_
          refine lNil ?_
          refine kThen ?_
          refine kSeq ?_
          refine kRegion rfl ?_
          refine lV (yAssign rfl) rfl rfl ?_
          refine lNil ?_
          refine kThen ?_
          refine kSeq ?_
          refine kSeq ?_
          refine kRegion rfl ?_
          refine lV (yAssign rfl) rfl rfl ?_
          refine lNil ?_
          refine kThen ?_
          refine kBlock ?_
          refine kLoopX (ι := Nat) (fun i => i ≤ (scalesP p (knownP p)).length) (fun i => [(15, i64 (i : Nat)), (14, .bool (eSc p false e i).some)]) [(0, _), (1, _), (2, _), (3, _), (6, _), (7, _), (19, _), (20, _), (21, _), (22, _), (23, _), (24, _), (25, _), (26, _), (18, _), (27, _), (28, _), (9, _), (10, _), (29, _), (30, _), (11, _), (12, _), (34, _), (35, _), (38, _), (39, _), (40, _), (41, _), (42, _), (43, _), (13, _)] (fun i => []) (fun i => ([(n11, blk [i64 (eSc p false e i).lo, i64 (eSc p false e i).hi, i64 0, i64 0] 97)] ++ osL 3 g.1)) [(n40, _), (n7, _), (n6, _), (n3, _)] (fun i => (scalesP p (knownP p)).length - i) 0 (Nat.zero_le _) rfl (.c rfl (.c rfl .n)) (.c rfl (.c rfl (.c rfl (.c rfl (.c rfl (.c rfl (.c rfl (.c rfl (.c rfl (.c rfl (.c rfl (.c rfl (.c rfl (.c rfl (.c rfl (.c rfl (.c rfl (.c rfl (.c rfl (.c rfl (.c rfl (.c rfl (.c rfl (.c rfl (.c rfl (.c rfl (.c rfl (.c rfl (.c rfl (.c rfl (.c rfl (.c rfl .n)))))))))))))))))))))))))))))))) (.c 0 rfl (.c 0 rfl (.c 0 rfl (.c 0 rfl (.c 0 rfl .r))))) ?_
          rintro i hi
          refine kSeq ?_
          refine kSeq ?_
          refine kRegion rfl ?_
          refine lV (yMove rfl) rfl rfl ?_
          refine lV (yMove rfl) rfl rfl ?_
          refine lV (yLen rfl S56) rfl rfl ?_
          refine lV (yLss rfl rfl) rfl rfl ?_
          refine lNil ?_
          refine kThen ?_
          refine split (t := 47) rfl (fun h47 => ?_) (fun h47 => ?_)
          · refine kIfT rfl ?_
            refine kSkip ?_
            refine kThen ?_
            refine kSeq ?_
            refine kBlock ?_
            refine kSeq ?_
            have hmem := getD_mem (l := scalesP p (knownP p)) (i := i) (by omega) 0
            have hsc := mem_sc hp hmem
            have hcb := fun d => corn_bd (scalesP_mem.1 hmem).2 d
            have hc0 := hcb false
            have hc1 := hcb true
            refine kDrawE [(0, none), (1, none), (2, none), (5, none), (6, none), (9, none)] [] [0, 1, 2, 3, 4, 5, 6, 7, 8, 9] 2 hMix (by kernel_rfl) ?_
            refine .run rfl (yLoadA (vs := [_, _, _]) rfl A26 (cOwn 3 rfl rfl)) rfl rfl ?_
            refine .run rfl (yLoadA (vs := [_, _, _]) rfl A26 (cOwn 3 rfl rfl)) rfl rfl ?_
            refine .run rfl (yCall rfl (.c rfl .n) C38 (fun w hw => rknown_any y p w (hm.eff0 hw) (by omega))) rfl rfl ?_
            refine .run rfl (yMove rfl) rfl rfl ?_
            refine .run rfl (yMove rfl) rfl rfl ?_
            refine .run rfl (yIndexS  rfl rfl S56 ((fun w hw => (OS.rowsE (f := rowI) 0 g.2 hw (.d 0 (.d 0 (.d 0 (.d 0 (.d 0 .r)))))).congr hgl fun i _ => rfl)) ((by omega))) rfl rfl ?_
            refine .run rfl (yLoad1 rfl O3 (cSl0 ((fun w hw => (OS.rowsE (f := rowI) 0 g.2 hw (.d 0 (.d 0 (.d 0 (.d 0 (.d 0 .r)))))).congr hgl fun i _ => rfl)) ((by omega)) rfl)) rfl rfl ?_
            refine .run rfl (yMove rfl) rfl rfl ?_
            refine .run rfl (yvIs (c := false) (yEql rfl rfl) (by decide)) rfl rfl ?_
            refine .run rfl (yCall rfl (.c rfl (.c rfl (.c rfl (.c rfl .n)))) C62 (fun w hw => rcorner_any y p false ((scalesP p (knownP p)).getD i 0) (knownP p) w (hm.eff0 hw) hp (by omega) (known_ok p))) rfl rfl ?_
            refine .done ?_
            refine effStep 10 [] (by kernel_rfl) closedSt (hLeft [0, 1, 2, 5, 6, 9] (by kernel_rfl) (.c (fun _ _ hs => hs.ef) (.c (fun _ _ hs => hs.ef) (.c (fun _ _ hs => hs.ef) (.c (fun _ _ hs => hs.ef) (.c (fun _ _ hs => hs.ef) (.c (fun _ _ hs => hs.ef) .n))))))) ?_
            refine .c ?_ .n
            refine effOne rfl (gNone rfl (fAlloc Z23)) ?_
            refine effStep 11 [] (by kernel_rfl) (closedEx fun n16 => closedSt) (hLeft [0, 1, 2, 5, 6, 9] (by kernel_rfl) (.c (fun _ _ ⟨n16, hs⟩ => hs.ef.sub (.c 1 rfl (.c 1 rfl (.c 1 rfl (.c 1 rfl (.c 1 rfl (.d 0 .r))))))) (.c (fun _ _ ⟨n16, hs⟩ => hs.ef.sub (.c 1 rfl (.c 1 rfl (.c 1 rfl (.c 1 rfl (.c 1 rfl (.d 0 .r))))))) (.c (fun _ _ ⟨n16, hs⟩ => hs.ef.sub (.c 1 rfl (.c 1 rfl (.c 1 rfl (.c 1 rfl (.c 1 rfl (.d 0 .r))))))) (.c (fun _ _ ⟨n16, hs⟩ => hs.ef.sub (.c 1 rfl (.c 1 rfl (.c 1 rfl (.c 1 rfl (.c 1 rfl (.d 0 .r))))))) (.c (fun _ _ ⟨n16, hs⟩ => hs.ef.sub (.c 1 rfl (.c 1 rfl (.c 1 rfl (.c 1 rfl (.c 1 rfl (.d 0 .r))))))) (.c (fun _ _ ⟨n16, hs⟩ => hs.ef.sub (.c 1 rfl (.c 1 rfl (.c 1 rfl (.c 1 rfl (.c 1 rfl (.d 0 .r))))))) .n))))))) ?_
            refine .c ?_ .n
            refine effOne rfl (opEx fun n16 => (gNone rfl (fStoreL 0 rfl rfl rfl rfl K23 rfl (rfl)))) ?_
            refine effDone (closedEx fun n16 => closedSt) (hLeft [] (by kernel_rfl) .n) (by kernel_rfl) ?_
            refine trEx fun n16 => ?_
            refine kThen ?_
            refine kSeq ?_
            refine kRegion rfl ?_
            refine lV (yAssign rfl) rfl rfl ?_
            refine lNil ?_
            refine kThen ?_
            refine kBlock ?_
            refine kLoopX (ι := Nat) (fun x => x ≤ 32769) (fun x => [(17, i64 (x : Nat)), (14, .bool (eIn (cornP p false ((scalesP p (knownP p)).getD i 0) (knownP p)) e ((scalesP p (knownP p)).getD i 0) (eSc p false e i) x).some)]) [(0, _), (1, _), (2, _), (3, _), (6, _), (7, _), (19, _), (20, _), (21, _), (22, _), (23, _), (24, _), (25, _), (26, _), (18, _), (27, _), (28, _), (9, _), (10, _), (29, _), (30, _), (11, _), (12, _), (34, _), (35, _), (38, _), (39, _), (40, _), (41, _), (42, _), (43, _), (13, _), (15, _), (44, _), (45, _), (46, _), (47, _), (50, _), (51, _), (52, _), (53, _), (54, _), (55, _), (56, _), (57, _), (58, _), (59, _), (16, _)] (fun x => []) (fun x => ([(n11, blk [i64 (eIn (cornP p false ((scalesP p (knownP p)).getD i 0) (knownP p)) e ((scalesP p (knownP p)).getD i 0) (eSc p false e i) x).lo, i64 (eIn (cornP p false ((scalesP p (knownP p)).getD i 0) (knownP p)) e ((scalesP p (knownP p)).getD i 0) (eSc p false e i) x).hi, i64 0, i64 0] 97)] ++ osL 3 g.1)) [(n16, _), (n40, _), (n7, _), (n6, _), (n3, _)] (fun x => 32769 - x) 0 (Nat.zero_le _) rfl (.c rfl (.c rfl .n)) (.c rfl (.c rfl (.c rfl (.c rfl (.c rfl (.c rfl (.c rfl (.c rfl (.c rfl (.c rfl (.c rfl (.c rfl (.c rfl (.c rfl (.c rfl (.c rfl (.c rfl (.c rfl (.c rfl (.c rfl (.c rfl (.c rfl (.c rfl (.c rfl (.c rfl (.c rfl (.c rfl (.c rfl (.c rfl (.c rfl (.c rfl (.c rfl (.c rfl (.c rfl (.c rfl (.c rfl (.c rfl (.c rfl (.c rfl (.c rfl (.c rfl (.c rfl (.c rfl (.c rfl (.c rfl (.c rfl (.c rfl (.c rfl .n)))))))))))))))))))))))))))))))))))))))))))))))) (.c 0 rfl (.c 0 rfl (.c 0 rfl (.c 0 rfl (.c 0 rfl (.c 0 rfl .r)))))) ?_
            rintro x hx
            refine kSeq ?_
            refine kSeq ?_
            refine kRegion rfl ?_
            refine lV (yMove rfl) rfl rfl ?_
            refine lV (yLeq rfl rfl) rfl rfl ?_
            refine lNil ?_
            refine kThen ?_
            refine split (t := 61) rfl (fun h61 => ?_) (fun h61 => ?_)
            · refine kIfT rfl ?_
              refine kSkip ?_
              refine kThen ?_
              refine kSeq ?_
              refine kBlock ?_
              refine kSeq ?_
              have hsx := mul_bd (a := (scalesP p (knownP p)).getD i 0) (b := (x : Int)) (by omega) (by omega)
              refine kDrawE [(3, none), (4, none), (10, none), (12, none), (13, none)] [] [0, 1, 2, 3, 4, 5, 6, 7, 8, 9, 10, 11, 12, 13] 0 hMix (by kernel_rfl) ?_
              refine .run rfl (yMove rfl) rfl rfl ?_
              refine .run rfl (yMove rfl) rfl rfl ?_
              refine .run rfl (yMove rfl) rfl rfl ?_
              refine .run rfl (yIndexS  rfl rfl S56 ((fun w hw => (OS.rowsE (f := rowI) 0 g.2 hw (.d 0 (.d 0 (.d 0 (.d 0 (.d 0 (.d 0 .r))))))).congr hgl fun i _ => rfl)) ((by omega))) rfl rfl ?_
              refine .run rfl (yLoad1 rfl O3 (cSl0 ((fun w hw => (OS.rowsE (f := rowI) 0 g.2 hw (.d 0 (.d 0 (.d 0 (.d 0 (.d 0 (.d 0 .r))))))).congr hgl fun i _ => rfl)) ((by omega)) rfl)) rfl rfl ?_
              refine .run rfl (yMove rfl) rfl rfl ?_
              refine .run rfl (yMul rfl rfl (by omega)) rfl rfl ?_
              refine .run rfl (yQuo rfl rfl (by omega) (by omega) (by omega)) rfl rfl ?_
              refine .run rfl (ySub rfl rfl (by omega)) rfl rfl ?_
              refine .run rfl (yFieldAddr rfl F23_0) rfl rfl ?_
              refine .run rfl (yLoad1 rfl O3 (cOwn 0 rfl rfl)) rfl rfl ?_
              refine .run rfl (yFieldAddr rfl F23_1) rfl rfl ?_
              refine .run rfl (yLoad1 rfl O3 (cOwn 0 rfl rfl)) rfl rfl ?_
              refine .run rfl (yCall rfl (.c rfl (.c rfl (.c rfl .n))) C77 (fun w hw => rin_any _ _ _ w)) rfl rfl ?_
              refine .done ?_
              refine effDone closedSt (hLeft [3, 4, 10, 12, 13] (by kernel_rfl) (.c (fun _ _ hs => hs.ef) (.c (fun _ _ hs => hs.ef) (.c (fun _ _ hs => hs.ef) (.c (fun _ _ hs => hs.ef) (.c (fun _ _ hs => hs.ef) .n)))))) (by kernel_rfl) ?_
              refine kThen ?_
              refine splitB (t := 77) rfl (fun h77 => ?_) (fun h77 => ?_)
              · refine kIfT rfl ?_
                refine kSeq ?_
                refine kRegion rfl ?_
                refine lV (yMove rfl) rfl rfl ?_
                refine lV (yMove rfl) rfl rfl ?_
                refine lV (yIndexAr rfl rfl R97 (by omega) (by omega)) rfl rfl ?_
                refine lV (yLoadA (vs := [_, _]) rfl A23 (cOwn 5 rfl rfl)) rfl rfl ?_
                refine lV (yMove rfl) rfl rfl ?_
                refine lV (yMove rfl) rfl rfl ?_
                refine lV (yBuild (.c rfl (.c rfl .n)) (fun w => B23_0_1 w)) rfl rfl ?_
                refine lV (yMove rfl) rfl rfl ?_
                refine lV (yNot rfl) rfl rfl ?_
                refine lV (yCall rfl (.c rfl (.c rfl (.c rfl .n))) C61 (fun w hw => rhull_any ((eIn (cornP p false ((scalesP p (knownP p)).getD i 0) (knownP p)) e ((scalesP p (knownP p)).getD i 0) (eSc p false e i) x).lo, (eIn (cornP p false ((scalesP p (knownP p)).getD i 0) (knownP p)) e ((scalesP p (knownP p)).getD i 0) (eSc p false e i) x).hi) ((x : Int), (x : Int)) (!(eIn (cornP p false ((scalesP p (knownP p)).getD i 0) (knownP p)) e ((scalesP p (knownP p)).getD i 0) (eSc p false e i) x).some) w)) rfl rfl ?_
                refine same (t := 87) (u := .agg (rowE ((keepE (eIn (cornP p false ((scalesP p (knownP p)).getD i 0) (knownP p)) e ((scalesP p (knownP p)).getD i 0) (eSc p false e i) x) (x : Nat)).lo, (keepE (eIn (cornP p false ((scalesP p (knownP p)).getD i 0) (knownP p)) e ((scalesP p (knownP p)).getD i 0) (eSc p false e i) x) (x : Nat)).hi)).toArray) rfl (by rw [(keep_hull _ _).1]) ?_
                refine lV (yIndexAr rfl rfl R97 (by omega) (by omega)) rfl rfl ?_
                refine lE rfl ?_
                refine eStoreL 5 rfl rfl rfl rfl K23 rfl (rfl) ?_
                refine lNil ?_
                refine kThen ?_
                refine kRegion rfl ?_
                refine lV (yAssign rfl) rfl rfl ?_
                refine lNil ?_
                refine kInN ?_
                refine kThen ?_
                rw [show keepE (eIn (cornP p false ((scalesP p (knownP p)).getD i 0) (knownP p)) e ((scalesP p (knownP p)).getD i 0) (eSc p false e i) x) (x : Nat) = (eIn (cornP p false ((scalesP p (knownP p)).getD i 0) (knownP p)) e ((scalesP p (knownP p)).getD i 0) (eSc p false e i) (x + 1)) from by rw [eIn_succ, if_pos (show inF _ _ _ _ = true from h77)]]
                refine kRegion rfl ?_
                refine lV (yMove rfl) rfl rfl ?_
                refine lV (yAdd rfl rfl (by omega)) rfl rfl ?_
                refine lV (yAssign rfl) rfl rfl ?_
                refine lNil ?_
                exact kRoundX (x + 1) (by omega) (by omega) rfl (.c rfl (.c (by first | rfl | (show some (Value.bool _) = _; rw [eIn_succ, if_pos (show inF _ _ _ _ = true from h77), (keep_hull _ _).2])) .n)) (.c rfl (.c rfl (.c rfl (.c rfl (.c rfl (.c rfl (.c rfl (.c rfl (.c rfl (.c rfl (.c rfl (.c rfl (.c rfl (.c rfl (.c rfl (.c rfl (.c rfl (.c rfl (.c rfl (.c rfl (.c rfl (.c rfl (.c rfl (.c rfl (.c rfl (.c rfl (.c rfl (.c rfl (.c rfl (.c rfl (.c rfl (.c rfl (.c rfl (.c rfl (.c rfl (.c rfl (.c rfl (.c rfl (.c rfl (.c rfl (.c rfl (.c rfl (.c rfl (.c rfl (.c rfl (.c rfl (.c rfl (.c rfl .n)))))))))))))))))))))))))))))))))))))))))))))))) (.c 0 rfl (.c 0 rfl (.c 0 rfl (.c 0 rfl (.c 0 rfl (.c 0 rfl .r))))))
              · refine kIfF rfl ?_
                refine kSkip ?_
                refine kInN ?_
                refine kThen ?_
                rw [show (eIn (cornP p false ((scalesP p (knownP p)).getD i 0) (knownP p)) e ((scalesP p (knownP p)).getD i 0) (eSc p false e i) x) = (eIn (cornP p false ((scalesP p (knownP p)).getD i 0) (knownP p)) e ((scalesP p (knownP p)).getD i 0) (eSc p false e i) (x + 1)) from by rw [eIn_succ, if_neg (show ¬ inF _ _ _ _ = true from fun hh => Bool.false_ne_true (h77.symm.trans hh))]]
                refine kRegion rfl ?_
                refine lV (yMove rfl) rfl rfl ?_
                refine lV (yAdd rfl rfl (by omega)) rfl rfl ?_
                refine lV (yAssign rfl) rfl rfl ?_
                refine lNil ?_
                exact kRoundX (x + 1) (by omega) (by omega) rfl (.c rfl (.c (by first | rfl | (show some (Value.bool _) = _; rw [eIn_succ, if_pos (show inF _ _ _ _ = true from h77), (keep_hull _ _).2])) .n)) (.c rfl (.c rfl (.c rfl (.c rfl (.c rfl (.c rfl (.c rfl (.c rfl (.c rfl (.c rfl (.c rfl (.c rfl (.c rfl (.c rfl (.c rfl (.c rfl (.c rfl (.c rfl (.c rfl (.c rfl (.c rfl (.c rfl (.c rfl (.c rfl (.c rfl (.c rfl (.c rfl (.c rfl (.c rfl (.c rfl (.c rfl (.c rfl (.c rfl (.c rfl (.c rfl (.c rfl (.c rfl (.c rfl (.c rfl (.c rfl (.c rfl (.c rfl (.c rfl (.c rfl (.c rfl (.c rfl (.c rfl (.c rfl .n)))))))))))))))))))))))))))))))))))))))))))))))) (.c 0 rfl (.c 0 rfl (.c 0 rfl (.c 0 rfl (.c 0 rfl (.c 0 rfl .r))))))
            · refine kIfF rfl ?_
              refine kExit ?_
              refine kThenX ?_
              refine kThenX ?_
              refine kInX ?_
              refine kInN ?_
              refine kThen ?_
              obtain rfl : x = 32769 := by omega
              rw [← eSc_succ]
              refine kRegion rfl ?_
              refine lV (yMove rfl) rfl rfl ?_
              refine lV (yAdd rfl rfl (by omega)) rfl rfl ?_
              refine lV (yAssign rfl) rfl rfl ?_
              refine lNil ?_
              exact kRoundX (i + 1) (by omega) (by omega) rfl (.c rfl (.c rfl .n)) (.c rfl (.c rfl (.c rfl (.c rfl (.c rfl (.c rfl (.c rfl (.c rfl (.c rfl (.c rfl (.c rfl (.c rfl (.c rfl (.c rfl (.c rfl (.c rfl (.c rfl (.c rfl (.c rfl (.c rfl (.c rfl (.c rfl (.c rfl (.c rfl (.c rfl (.c rfl (.c rfl (.c rfl (.c rfl (.c rfl (.c rfl (.c rfl .n)))))))))))))))))))))))))))))))) (.c 1 rfl (.c 1 rfl (.c 1 rfl (.c 1 rfl (.c 1 rfl (.d 0 .r))))))
          · refine kIfF rfl ?_
            refine kExit ?_
            refine kThenX ?_
            refine kThenX ?_
            refine kInX ?_
            refine kThen ?_
            refine kSeq ?_
            obtain rfl : i = (scalesP p (knownP p)).length := by omega
            rw [eSc_all hp]
            refine kRegion rfl ?_
            refine lV (yMove rfl) rfl rfl ?_
            refine lV (yNot rfl) rfl rfl ?_
            refine splitB (t := 90) rfl (fun h90 => ?_) (fun h90 => ?_)
            · refine lNil ?_
              refine kThen ?_
              refine kIfT rfl ?_
              refine kSeq ?_
              refine kRegion rfl ?_
              refine lV (yBuild .n (fun w => B23_ w)) rfl rfl ?_
              refine lV (yBuild .n (fun w => B23_ w)) rfl rfl ?_
              refine lE rfl ?_
              refine eStoreL 2 rfl rfl rfl rfl K23 rfl (rfl) ?_
              refine lE rfl ?_
              refine eStoreL 1 rfl rfl rfl rfl K23 rfl (rfl) ?_
              refine lV (yAssign rfl) rfl rfl ?_
              refine lNil ?_
              refine kThen ?_
              refine kRet ?_
              refine kInR ?_
              refine kThenR ?_
              refine kThenR ?_
              refine kInR ?_
              refine kThenR ?_
              refine fRet rfl (.cA (us := [_, _]) rfl A23 (cOwn 2 rfl rfl) (.cA (us := [_, _]) rfl A23 (cOwn 1 rfl rfl) (.t rfl .n))) (endRet ?_)
              rw [if_neg (fun hh => by rw [hh.1] at h90; cases h90)]
              rfl
            · refine lNil ?_
              refine kThen ?_
              refine kIfF rfl ?_
              refine kSkip ?_
              refine kInN ?_
              refine kThen ?_
              refine kRegion rfl ?_
              refine lV (yMove rfl) rfl rfl ?_
              refine lV (yAdd rfl rfl (by omega)) rfl rfl ?_
              refine lV (yAssign rfl) rfl rfl ?_
              refine lNil ?_
              exact kRoundX 1 (⟨by omega, fun _ => by simpa using h90, fun h => absurd h (by omega)⟩) (by omega) rfl (.c rfl .n) (.c rfl (.c rfl (.c rfl (.c rfl (.c rfl (.c rfl (.c rfl (.c rfl (.c rfl (.c rfl (.c rfl (.c rfl (.c rfl (.c rfl (.c rfl (.c rfl (.c rfl (.c rfl (.c rfl (.c rfl (.c rfl (.c rfl .n)))))))))))))))))))))) (.c 1 rfl (.c 1 rfl (.c 1 rfl (.c 1 rfl (.d 0 .r)))))
        · obtain rfl : k = 1 := by omega
          refine kRegion rfl ?_
          refine lV (yMove rfl) rfl rfl ?_
          refine lV (yMove rfl) rfl rfl ?_
          refine lE rfl ?_
          refine eBuildSlice (.c rfl (.c rfl .n)) (fun w => BS56_2_0_1 w) fun n40 => ?_
          refine lV (yMove rfl) rfl rfl ?_
          refine lV (yIndexS  rfl rfl S56 ((fun w hw => sleRows (f := rowI) (fun _ => rfl) 0 [e, n] rfl (hw.blkAt 0 rfl))) ((Nat.le_of_ble_eq_true rfl))) rfl rfl ?_
          refine lV (yLoad1 rfl O3 (cSl0 ((fun w hw => sleRows (f := rowI) (fun _ => rfl) 0 [e, n] rfl (hw.blkAt 0 rfl))) ((Nat.le_of_ble_eq_true rfl)) rfl)) rfl rfl ?_
          refine same (t := 43) (u := i64 n) rfl (rfl) ?_
          refine lV (yAssign rfl) rfl rfl ?_
          refine lNil ?_
          refine kThen ?_
          refine kSeq ?_
          refine kRegion rfl ?_
          refine lV (yAssign rfl) rfl rfl ?_
          refine lNil ?_
          refine kThen ?_
          refine kSeq ?_
          refine kSeq ?_
          refine kRegion rfl ?_
          refine lV (yAssign rfl) rfl rfl ?_
          refine lNil ?_
          refine kThen ?_
          refine kBlock ?_
          refine kLoopX (ι := Nat) (fun i => i ≤ (scalesP p (knownP p)).length) (fun i => [(15, i64 (i : Nat)), (14, .bool (eSc p true n i).some)]) [(0, _), (1, _), (2, _), (3, _), (6, _), (7, _), (19, _), (20, _), (21, _), (22, _), (23, _), (24, _), (25, _), (26, _), (18, _), (27, _), (28, _), (9, _), (10, _), (29, _), (30, _), (11, _), (12, _), (34, _), (35, _), (38, _), (39, _), (40, _), (41, _), (42, _), (43, _), (13, _)] (fun i => []) (fun i => ([(n11, blk [i64 (findH p false e).lo, i64 (findH p false e).hi, i64 (eSc p true n i).lo, i64 (eSc p true n i).hi] 97)] ++ osL 3 g.1)) [(n40, _), (n7, _), (n6, _), (n3, _)] (fun i => (scalesP p (knownP p)).length - i) 0 (Nat.zero_le _) rfl (.c rfl (.c rfl .n)) (.c rfl (.c rfl (.c rfl (.c rfl (.c rfl (.c rfl (.c rfl (.c rfl (.c rfl (.c rfl (.c rfl (.c rfl (.c rfl (.c rfl (.c rfl (.c rfl (.c rfl (.c rfl (.c rfl (.c rfl (.c rfl (.c rfl (.c rfl (.c rfl (.c rfl (.c rfl (.c rfl (.c rfl (.c rfl (.c rfl (.c rfl (.c rfl .n)))))))))))))))))))))))))))))))) (.c 0 rfl (.c 0 rfl (.c 0 rfl (.c 0 rfl (.c 0 rfl .r))))) ?_
          rintro i hi
          refine kSeq ?_
          refine kSeq ?_
          refine kRegion rfl ?_
          refine lV (yMove rfl) rfl rfl ?_
          refine lV (yMove rfl) rfl rfl ?_
          refine lV (yLen rfl S56) rfl rfl ?_
          refine lV (yLss rfl rfl) rfl rfl ?_
          refine lNil ?_
          refine kThen ?_
          refine split (t := 47) rfl (fun h47 => ?_) (fun h47 => ?_)
          · refine kIfT rfl ?_
            refine kSkip ?_
            refine kThen ?_
            refine kSeq ?_
            refine kBlock ?_
            refine kSeq ?_
            have hmem := getD_mem (l := scalesP p (knownP p)) (i := i) (by omega) 0
            have hsc := mem_sc hp hmem
            have hcb := fun d => corn_bd (scalesP_mem.1 hmem).2 d
            have hc0 := hcb false
            have hc1 := hcb true
            refine kDrawE [(0, none), (1, none), (2, none), (5, none), (6, none), (9, none)] [] [0, 1, 2, 3, 4, 5, 6, 7, 8, 9] 2 hMix (by kernel_rfl) ?_
            refine .run rfl (yLoadA (vs := [_, _, _]) rfl A26 (cOwn 3 rfl rfl)) rfl rfl ?_
            refine .run rfl (yLoadA (vs := [_, _, _]) rfl A26 (cOwn 3 rfl rfl)) rfl rfl ?_
            refine .run rfl (yCall rfl (.c rfl .n) C38 (fun w hw => rknown_any y p w (hm.eff0 hw) (by omega))) rfl rfl ?_
            refine .run rfl (yMove rfl) rfl rfl ?_
            refine .run rfl (yMove rfl) rfl rfl ?_
            refine .run rfl (yIndexS  rfl rfl S56 ((fun w hw => (OS.rowsE (f := rowI) 0 g.2 hw (.d 0 (.d 0 (.d 0 (.d 0 (.d 0 .r)))))).congr hgl fun i _ => rfl)) ((by omega))) rfl rfl ?_
            refine .run rfl (yLoad1 rfl O3 (cSl0 ((fun w hw => (OS.rowsE (f := rowI) 0 g.2 hw (.d 0 (.d 0 (.d 0 (.d 0 (.d 0 .r)))))).congr hgl fun i _ => rfl)) ((by omega)) rfl)) rfl rfl ?_
            refine .run rfl (yMove rfl) rfl rfl ?_
            refine .run rfl (yvIs (c := true) (yEql rfl rfl) (by decide)) rfl rfl ?_
            refine .run rfl (yCall rfl (.c rfl (.c rfl (.c rfl (.c rfl .n)))) C62 (fun w hw => rcorner_any y p true ((scalesP p (knownP p)).getD i 0) (knownP p) w (hm.eff0 hw) hp (by omega) (known_ok p))) rfl rfl ?_
            refine .done ?_
            refine effStep 10 [] (by kernel_rfl) closedSt (hLeft [0, 1, 2, 5, 6, 9] (by kernel_rfl) (.c (fun _ _ hs => hs.ef) (.c (fun _ _ hs => hs.ef) (.c (fun _ _ hs => hs.ef) (.c (fun _ _ hs => hs.ef) (.c (fun _ _ hs => hs.ef) (.c (fun _ _ hs => hs.ef) .n))))))) ?_
            refine .c ?_ .n
            refine effOne rfl (gNone rfl (fAlloc Z23)) ?_
            refine effStep 11 [] (by kernel_rfl) (closedEx fun n16 => closedSt) (hLeft [0, 1, 2, 5, 6, 9] (by kernel_rfl) (.c (fun _ _ ⟨n16, hs⟩ => hs.ef.sub (.c 1 rfl (.c 1 rfl (.c 1 rfl (.c 1 rfl (.c 1 rfl (.d 0 .r))))))) (.c (fun _ _ ⟨n16, hs⟩ => hs.ef.sub (.c 1 rfl (.c 1 rfl (.c 1 rfl (.c 1 rfl (.c 1 rfl (.d 0 .r))))))) (.c (fun _ _ ⟨n16, hs⟩ => hs.ef.sub (.c 1 rfl (.c 1 rfl (.c 1 rfl (.c 1 rfl (.c 1 rfl (.d 0 .r))))))) (.c (fun _ _ ⟨n16, hs⟩ => hs.ef.sub (.c 1 rfl (.c 1 rfl (.c 1 rfl (.c 1 rfl (.c 1 rfl (.d 0 .r))))))) (.c (fun _ _ ⟨n16, hs⟩ => hs.ef.sub (.c 1 rfl (.c 1 rfl (.c 1 rfl (.c 1 rfl (.c 1 rfl (.d 0 .r))))))) (.c (fun _ _ ⟨n16, hs⟩ => hs.ef.sub (.c 1 rfl (.c 1 rfl (.c 1 rfl (.c 1 rfl (.c 1 rfl (.d 0 .r))))))) .n))))))) ?_
            refine .c ?_ .n
            refine effOne rfl (opEx fun n16 => (gNone rfl (fStoreL 0 rfl rfl rfl rfl K23 rfl (rfl)))) ?_
            refine effDone (closedEx fun n16 => closedSt) (hLeft [] (by kernel_rfl) .n) (by kernel_rfl) ?_
            refine trEx fun n16 => ?_
            refine kThen ?_
            refine kSeq ?_
            refine kRegion rfl ?_
            refine lV (yAssign rfl) rfl rfl ?_
            refine lNil ?_
            refine kThen ?_
            refine kBlock ?_
            refine kLoopX (ι := Nat) (fun x => x ≤ 32769) (fun x => [(17, i64 (x : Nat)), (14, .bool (eIn (cornP p true ((scalesP p (knownP p)).getD i 0) (knownP p)) n ((scalesP p (knownP p)).getD i 0) (eSc p true n i) x).some)]) [(0, _), (1, _), (2, _), (3, _), (6, _), (7, _), (19, _), (20, _), (21, _), (22, _), (23, _), (24, _), (25, _), (26, _), (18, _), (27, _), (28, _), (9, _), (10, _), (29, _), (30, _), (11, _), (12, _), (34, _), (35, _), (38, _), (39, _), (40, _), (41, _), (42, _), (43, _), (13, _), (15, _), (44, _), (45, _), (46, _), (47, _), (50, _), (51, _), (52, _), (53, _), (54, _), (55, _), (56, _), (57, _), (58, _), (59, _), (16, _)] (fun x => []) (fun x => ([(n11, blk [i64 (findH p false e).lo, i64 (findH p false e).hi, i64 (eIn (cornP p true ((scalesP p (knownP p)).getD i 0) (knownP p)) n ((scalesP p (knownP p)).getD i 0) (eSc p true n i) x).lo, i64 (eIn (cornP p true ((scalesP p (knownP p)).getD i 0) (knownP p)) n ((scalesP p (knownP p)).getD i 0) (eSc p true n i) x).hi] 97)] ++ osL 3 g.1)) [(n16, _), (n40, _), (n7, _), (n6, _), (n3, _)] (fun x => 32769 - x) 0 (Nat.zero_le _) rfl (.c rfl (.c rfl .n)) (.c rfl (.c rfl (.c rfl (.c rfl (.c rfl (.c rfl (.c rfl (.c rfl (.c rfl (.c rfl (.c rfl (.c rfl (.c rfl (.c rfl (.c rfl (.c rfl (.c rfl (.c rfl (.c rfl (.c rfl (.c rfl (.c rfl (.c rfl (.c rfl (.c rfl (.c rfl (.c rfl (.c rfl (.c rfl (.c rfl (.c rfl (.c rfl (.c rfl (.c rfl (.c rfl (.c rfl (.c rfl (.c rfl (.c rfl (.c rfl (.c rfl (.c rfl (.c rfl (.c rfl (.c rfl (.c rfl (.c rfl (.c rfl .n)))))))))))))))))))))))))))))))))))))))))))))))) (.c 0 rfl (.c 0 rfl (.c 0 rfl (.c 0 rfl (.c 0 rfl (.c 0 rfl .r)))))) ?_
            rintro x hx
            refine kSeq ?_
            refine kSeq ?_
            refine kRegion rfl ?_
            refine lV (yMove rfl) rfl rfl ?_
            refine lV (yLeq rfl rfl) rfl rfl ?_
            refine lNil ?_
            refine kThen ?_
            refine split (t := 61) rfl (fun h61 => ?_) (fun h61 => ?_)
            · refine kIfT rfl ?_
              refine kSkip ?_
              refine kThen ?_
              refine kSeq ?_
              refine kBlock ?_
              refine kSeq ?_
              have hsx := mul_bd (a := (scalesP p (knownP p)).getD i 0) (b := (x : Int)) (by omega) (by omega)
              refine kDrawE [(3, none), (4, none), (10, none), (12, none), (13, none)] [] [0, 1, 2, 3, 4, 5, 6, 7, 8, 9, 10, 11, 12, 13] 0 hMix (by kernel_rfl) ?_
              refine .run rfl (yMove rfl) rfl rfl ?_
              refine .run rfl (yMove rfl) rfl rfl ?_
              refine .run rfl (yMove rfl) rfl rfl ?_
              refine .run rfl (yIndexS  rfl rfl S56 ((fun w hw => (OS.rowsE (f := rowI) 0 g.2 hw (.d 0 (.d 0 (.d 0 (.d 0 (.d 0 (.d 0 .r))))))).congr hgl fun i _ => rfl)) ((by omega))) rfl rfl ?_
              refine .run rfl (yLoad1 rfl O3 (cSl0 ((fun w hw => (OS.rowsE (f := rowI) 0 g.2 hw (.d 0 (.d 0 (.d 0 (.d 0 (.d 0 (.d 0 .r))))))).congr hgl fun i _ => rfl)) ((by omega)) rfl)) rfl rfl ?_
              refine .run rfl (yMove rfl) rfl rfl ?_
              refine .run rfl (yMul rfl rfl (by omega)) rfl rfl ?_
              refine .run rfl (yQuo rfl rfl (by omega) (by omega) (by omega)) rfl rfl ?_
              refine .run rfl (ySub rfl rfl (by omega)) rfl rfl ?_
              refine .run rfl (yFieldAddr rfl F23_0) rfl rfl ?_
              refine .run rfl (yLoad1 rfl O3 (cOwn 0 rfl rfl)) rfl rfl ?_
              refine .run rfl (yFieldAddr rfl F23_1) rfl rfl ?_
              refine .run rfl (yLoad1 rfl O3 (cOwn 0 rfl rfl)) rfl rfl ?_
              refine .run rfl (yCall rfl (.c rfl (.c rfl (.c rfl .n))) C77 (fun w hw => rin_any _ _ _ w)) rfl rfl ?_
              refine .done ?_
              refine effDone closedSt (hLeft [3, 4, 10, 12, 13] (by kernel_rfl) (.c (fun _ _ hs => hs.ef) (.c (fun _ _ hs => hs.ef) (.c (fun _ _ hs => hs.ef) (.c (fun _ _ hs => hs.ef) (.c (fun _ _ hs => hs.ef) .n)))))) (by kernel_rfl) ?_
              refine kThen ?_
              refine splitB (t := 77) rfl (fun h77 => ?_) (fun h77 => ?_)
              · refine kIfT rfl ?_
                refine kSeq ?_
                refine kRegion rfl ?_
                refine lV (yMove rfl) rfl rfl ?_
                refine lV (yMove rfl) rfl rfl ?_
                refine lV (yIndexAr rfl rfl R97 (by omega) (by omega)) rfl rfl ?_
                refine lV (yLoadA (vs := [_, _]) rfl A23 (cOwn 5 rfl rfl)) rfl rfl ?_
                refine lV (yMove rfl) rfl rfl ?_
                refine lV (yMove rfl) rfl rfl ?_
                refine lV (yBuild (.c rfl (.c rfl .n)) (fun w => B23_0_1 w)) rfl rfl ?_
                refine lV (yMove rfl) rfl rfl ?_
                refine lV (yNot rfl) rfl rfl ?_
                refine lV (yCall rfl (.c rfl (.c rfl (.c rfl .n))) C61 (fun w hw => rhull_any ((eIn (cornP p true ((scalesP p (knownP p)).getD i 0) (knownP p)) n ((scalesP p (knownP p)).getD i 0) (eSc p true n i) x).lo, (eIn (cornP p true ((scalesP p (knownP p)).getD i 0) (knownP p)) n ((scalesP p (knownP p)).getD i 0) (eSc p true n i) x).hi) ((x : Int), (x : Int)) (!(eIn (cornP p true ((scalesP p (knownP p)).getD i 0) (knownP p)) n ((scalesP p (knownP p)).getD i 0) (eSc p true n i) x).some) w)) rfl rfl ?_
                refine same (t := 87) (u := .agg (rowE ((keepE (eIn (cornP p true ((scalesP p (knownP p)).getD i 0) (knownP p)) n ((scalesP p (knownP p)).getD i 0) (eSc p true n i) x) (x : Nat)).lo, (keepE (eIn (cornP p true ((scalesP p (knownP p)).getD i 0) (knownP p)) n ((scalesP p (knownP p)).getD i 0) (eSc p true n i) x) (x : Nat)).hi)).toArray) rfl (by rw [(keep_hull _ _).1]) ?_
                refine lV (yIndexAr rfl rfl R97 (by omega) (by omega)) rfl rfl ?_
                refine lE rfl ?_
                refine eStoreL 5 rfl rfl rfl rfl K23 rfl (rfl) ?_
                refine lNil ?_
                refine kThen ?_
                refine kRegion rfl ?_
                refine lV (yAssign rfl) rfl rfl ?_
                refine lNil ?_
                refine kInN ?_
                refine kThen ?_
                rw [show keepE (eIn (cornP p true ((scalesP p (knownP p)).getD i 0) (knownP p)) n ((scalesP p (knownP p)).getD i 0) (eSc p true n i) x) (x : Nat) = (eIn (cornP p true ((scalesP p (knownP p)).getD i 0) (knownP p)) n ((scalesP p (knownP p)).getD i 0) (eSc p true n i) (x + 1)) from by rw [eIn_succ, if_pos (show inF _ _ _ _ = true from h77)]]
                refine kRegion rfl ?_
                refine lV (yMove rfl) rfl rfl ?_
                refine lV (yAdd rfl rfl (by omega)) rfl rfl ?_
                refine lV (yAssign rfl) rfl rfl ?_
                refine lNil ?_
                exact kRoundX (x + 1) (by omega) (by omega) rfl (.c rfl (.c (by first | rfl | (show some (Value.bool _) = _; rw [eIn_succ, if_pos (show inF _ _ _ _ = true from h77), (keep_hull _ _).2])) .n)) (.c rfl (.c rfl (.c rfl (.c rfl (.c rfl (.c rfl (.c rfl (.c rfl (.c rfl (.c rfl (.c rfl (.c rfl (.c rfl (.c rfl (.c rfl (.c rfl (.c rfl (.c rfl (.c rfl (.c rfl (.c rfl (.c rfl (.c rfl (.c rfl (.c rfl (.c rfl (.c rfl (.c rfl (.c rfl (.c rfl (.c rfl (.c rfl (.c rfl (.c rfl (.c rfl (.c rfl (.c rfl (.c rfl (.c rfl (.c rfl (.c rfl (.c rfl (.c rfl (.c rfl (.c rfl (.c rfl (.c rfl (.c rfl .n)))))))))))))))))))))))))))))))))))))))))))))))) (.c 0 rfl (.c 0 rfl (.c 0 rfl (.c 0 rfl (.c 0 rfl (.c 0 rfl .r))))))
              · refine kIfF rfl ?_
                refine kSkip ?_
                refine kInN ?_
                refine kThen ?_
                rw [show (eIn (cornP p true ((scalesP p (knownP p)).getD i 0) (knownP p)) n ((scalesP p (knownP p)).getD i 0) (eSc p true n i) x) = (eIn (cornP p true ((scalesP p (knownP p)).getD i 0) (knownP p)) n ((scalesP p (knownP p)).getD i 0) (eSc p true n i) (x + 1)) from by rw [eIn_succ, if_neg (show ¬ inF _ _ _ _ = true from fun hh => Bool.false_ne_true (h77.symm.trans hh))]]
                refine kRegion rfl ?_
                refine lV (yMove rfl) rfl rfl ?_
                refine lV (yAdd rfl rfl (by omega)) rfl rfl ?_
                refine lV (yAssign rfl) rfl rfl ?_
                refine lNil ?_
                exact kRoundX (x + 1) (by omega) (by omega) rfl (.c rfl (.c (by first | rfl | (show some (Value.bool _) = _; rw [eIn_succ, if_pos (show inF _ _ _ _ = true from h77), (keep_hull _ _).2])) .n)) (.c rfl (.c rfl (.c rfl (.c rfl (.c rfl (.c rfl (.c rfl (.c rfl (.c rfl (.c rfl (.c rfl (.c rfl (.c rfl (.c rfl (.c rfl (.c rfl (.c rfl (.c rfl (.c rfl (.c rfl (.c rfl (.c rfl (.c rfl (.c rfl (.c rfl (.c rfl (.c rfl (.c rfl (.c rfl (.c rfl (.c rfl (.c rfl (.c rfl (.c rfl (.c rfl (.c rfl (.c rfl (.c rfl (.c rfl (.c rfl (.c rfl (.c rfl (.c rfl (.c rfl (.c rfl (.c rfl (.c rfl (.c rfl .n)))))))))))))))))))))))))))))))))))))))))))))))) (.c 0 rfl (.c 0 rfl (.c 0 rfl (.c 0 rfl (.c 0 rfl (.c 0 rfl .r))))))
            · refine kIfF rfl ?_
              refine kExit ?_
              refine kThenX ?_
              refine kThenX ?_
              refine kInX ?_
              refine kInN ?_
              refine kThen ?_
              obtain rfl : x = 32769 := by omega
              rw [← eSc_succ]
              refine kRegion rfl ?_
              refine lV (yMove rfl) rfl rfl ?_
              refine lV (yAdd rfl rfl (by omega)) rfl rfl ?_
              refine lV (yAssign rfl) rfl rfl ?_
              refine lNil ?_
              exact kRoundX (i + 1) (by omega) (by omega) rfl (.c rfl (.c rfl .n)) (.c rfl (.c rfl (.c rfl (.c rfl (.c rfl (.c rfl (.c rfl (.c rfl (.c rfl (.c rfl (.c rfl (.c rfl (.c rfl (.c rfl (.c rfl (.c rfl (.c rfl (.c rfl (.c rfl (.c rfl (.c rfl (.c rfl (.c rfl (.c rfl (.c rfl (.c rfl (.c rfl (.c rfl (.c rfl (.c rfl (.c rfl (.c rfl .n)))))))))))))))))))))))))))))))) (.c 1 rfl (.c 1 rfl (.c 1 rfl (.c 1 rfl (.c 1 rfl (.d 0 .r))))))
          · refine kIfF rfl ?_
            refine kExit ?_
            refine kThenX ?_
            refine kThenX ?_
            refine kInX ?_
            refine kThen ?_
            refine kSeq ?_
            obtain rfl : i = (scalesP p (knownP p)).length := by omega
            rw [eSc_all hp]
            refine kRegion rfl ?_
            refine lV (yMove rfl) rfl rfl ?_
            refine lV (yNot rfl) rfl rfl ?_
            refine splitB (t := 90) rfl (fun h90 => ?_) (fun h90 => ?_)
            · refine lNil ?_
              refine kThen ?_
              refine kIfT rfl ?_
              refine kSeq ?_
              refine kRegion rfl ?_
              refine lV (yBuild .n (fun w => B23_ w)) rfl rfl ?_
              refine lV (yBuild .n (fun w => B23_ w)) rfl rfl ?_
              refine lE rfl ?_
              refine eStoreL 2 rfl rfl rfl rfl K23 rfl (rfl) ?_
              refine lE rfl ?_
              refine eStoreL 1 rfl rfl rfl rfl K23 rfl (rfl) ?_
              refine lV (yAssign rfl) rfl rfl ?_
              refine lNil ?_
              refine kThen ?_
              refine kRet ?_
              refine kInR ?_
              refine kThenR ?_
              refine kThenR ?_
              refine kInR ?_
              refine kThenR ?_
              refine fRet rfl (.cA (us := [_, _]) rfl A23 (cOwn 2 rfl rfl) (.cA (us := [_, _]) rfl A23 (cOwn 1 rfl rfl) (.t rfl .n))) (endRet ?_)
              rw [if_neg (fun hh => by rw [hh.2] at h90; cases h90)]
              rfl
            · refine lNil ?_
              refine kThen ?_
              refine kIfF rfl ?_
              refine kSkip ?_
              refine kInN ?_
              refine kThen ?_
              refine kRegion rfl ?_
              refine lV (yMove rfl) rfl rfl ?_
              refine lV (yAdd rfl rfl (by omega)) rfl rfl ?_
              refine lV (yAssign rfl) rfl rfl ?_
              refine lNil ?_
              exact kRoundX 2 (⟨by omega, fun _ => hf1 (by omega), fun _ => by simpa using h90⟩) (by omega) rfl (.c rfl .n) (.c rfl (.c rfl (.c rfl (.c rfl (.c rfl (.c rfl (.c rfl (.c rfl (.c rfl (.c rfl (.c rfl (.c rfl (.c rfl (.c rfl (.c rfl (.c rfl (.c rfl (.c rfl (.c rfl (.c rfl (.c rfl (.c rfl .n)))))))))))))))))))))) (.c 1 rfl (.c 1 rfl (.c 1 rfl (.c 1 rfl (.d 0 .r)))))
      · refine kIfF rfl ?_
        refine kExit ?_
        refine kThenX ?_
        refine kThenX ?_
        refine kInX ?_
        refine kThen ?_
        refine kSeq ?_
        obtain rfl : k = 2 := by omega
        refine kDrawE [(1, none), (3, some [0, 2, 3])] [] [0, 1, 2, 3, 6] 2 hMix (by kernel_rfl) ?_
        refine .run rfl (yIndexAr rfl rfl R97 (by omega) (by omega)) rfl rfl ?_
        refine .run rfl (yLoadA (vs := [_, _]) rfl A23 (cOwn 3 rfl rfl)) rfl rfl ?_
        refine .run rfl (yIndexAr rfl rfl R97 (by omega) (by omega)) rfl rfl ?_
        refine .run rfl (yLoadA (vs := [_, _]) rfl A23 (cOwn 2 rfl rfl)) rfl rfl ?_
        refine .run rfl (yAssign rfl) rfl rfl ?_
        refine .done ?_
        refine effStep 4 [] (by kernel_rfl) closedSt (hLeft [1, 3] (by kernel_rfl) (.c (fun _ _ hs => hs.ef) (.c (fun _ _ hs => hs.ef.sub (.c 0 rfl (.c 1 rfl (.c 1 rfl .n)))) .n))) ?_
        refine .c ?_ .n
        refine effOne rfl (gNone rfl (fStoreL 1 rfl rfl rfl rfl K23 rfl (rfl))) ?_
        refine effStep 5 [] (by kernel_rfl) closedSt (hLeft [3] (by kernel_rfl) (.c (fun _ _ hs => hs.ef.sub (.c 0 rfl (.c 1 rfl (.c 1 rfl .n)))) .n)) ?_
        refine .c ?_ .n
        refine effOne rfl (gNone rfl (fStoreL 0 rfl rfl rfl rfl K23 rfl (rfl))) ?_
        refine effDone closedSt (hLeft [] (by kernel_rfl) .n) (by kernel_rfl) ?_
        refine kThen ?_
        refine kRet ?_
        refine fRet rfl (.cA (us := [_, _]) rfl A23 (cOwn 1 rfl rfl) (.cA (us := [_, _]) rfl A23 (cOwn 0 rfl rfl) (.t rfl .n))) (endRet ?_)
        rw [if_pos ⟨hf1 (by omega), hf2 (by omega)⟩]
        rfl
    · refine effOne rfl (opEx fun g => (gNone rfl (fV (yAssign rfl) rfl))) ?_
      refine effStep 10 [] (by kernel_rfl) (closedEx fun g => closedSt) (hLeft [] (by kernel_rfl) .n) ?_
      refine .c ?_ .n
      refine effOne rfl (opEx fun g => (gNone rfl (fV (yExtract rfl rfl) rfl))) ?_
      refine effStep 12 [] (by kernel_rfl) (closedEx fun g => closedSt) (hLeft [] (by kernel_rfl) .n) ?_
      refine .c ?_ .n
      refine effOne rfl (opEx fun g => (gNone rfl (fV (yAssign rfl) rfl))) ?_
      refine effDone (closedEx fun g => closedSt) (hLeft [] (by kernel_rfl) .n) (by kernel_rfl) ?_
      refine trEx fun g => ?_
      refine kThen ?_
      refine kSeq ?_
      refine kSeq ?_
      refine kRegion rfl ?_
      refine lV (yMove rfl) rfl rfl ?_
      refine lV (yNeq rfl rfl) rfl rfl ?_
      refine knownB (t := 30) (c := false) rfl (by simp) ?_
      refine lNil ?_
      refine kThen ?_
      refine kIfF rfl ?_
      refine kSkip ?_
      refine kThen ?_
      refine kSeq ?_
      refine kRegion rfl ?_
      refine lE rfl ?_
      refine eAlloc Z97 fun n11 => ?_
      refine lNil ?_
      refine kThen ?_
      refine kSeq ?_
      refine kSeq ?_
      refine kRegion rfl ?_
      refine lV (yAssign rfl) rfl rfl ?_
      refine lNil ?_
      refine kThen ?_
      refine kBlock ?_
      refine kLoopX (ι := Nat) (fun k => k ≤ 2 ∧ (1 ≤ k → (findH p false e).some = true) ∧ (2 ≤ k → (findH p true n).some = true)) (fun k => [(12, i64 (k : Nat))]) [(0, _), (1, _), (2, _), (3, _), (6, _), (7, _), (19, _), (20, _), (21, _), (22, _), (23, _), (24, _), (25, _), (26, _), (18, _), (27, _), (9, _), (28, _), (10, _), (29, _), (30, _), (11, _)] (fun k => []) (fun k => ([(n11, blk (arrF p e n k) 97)] ++ osL 3 g.1)) [(n7, _), (n6, _), (n3, _)] (fun k => 2 - k) 0 (⟨by omega, fun h => absurd h (by omega), fun h => absurd h (by omega)⟩) rfl (.c rfl .n) (.c rfl (.c rfl (.c rfl (.c rfl (.c rfl (.c rfl (.c rfl (.c rfl (.c rfl (.c rfl (.c rfl (.c rfl (.c rfl (.c rfl (.c rfl (.c rfl (.c rfl (.c rfl (.c rfl (.c rfl (.c rfl (.c rfl .n)))))))))))))))))))))) (.c 1 rfl (.c 1 rfl (.c 1 rfl (.c 0 rfl .r)))) ?_
      rintro k ⟨hk2, hf1, hf2⟩
      refine kSeq ?_
      refine kSeq ?_
      have hgl : ((scalesP p (knownP p)).map rowI).length = (scalesP p (knownP p)).length := List.length_map _
      refine kRegion rfl ?_
      refine lV (yMove rfl) rfl rfl ?_
      refine lV (yLss rfl rfl) rfl rfl ?_
      refine lNil ?_
      refine kThen ?_
      refine split (t := 35) rfl (fun h35 => ?_) (fun h35 => ?_)
      · refine kIfT rfl ?_
        refine kSkip ?_
        refine kThen ?_
        refine kSeq ?_
        refine kBlock ?_
        refine kSeq ?_
        by_cases hk0 : k = 0
        · obtain rfl : k = 0 := hk0
          refine kRegion rfl ?_
          refine lV (yMove rfl) rfl rfl ?_
          refine lV (yMove rfl) rfl rfl ?_
          refine lE rfl ?_
          refine eBuildSlice (.c rfl (.c rfl .n)) (fun w => BS56_2_0_1 w) fun n40 => ?_
          refine lV (yMove rfl) rfl rfl ?_
          refine lV (yIndexS  rfl rfl S56 ((fun w hw => sleRows (f := rowI) (fun _ => rfl) 0 [e, n] rfl (hw.blkAt 0 rfl))) ((Nat.le_of_ble_eq_true rfl))) rfl rfl ?_
          refine lV (yLoad1 rfl O3 (cSl0 ((fun w hw => sleRows (f := rowI) (fun _ => rfl) 0 [e, n] rfl (hw.blkAt 0 rfl))) ((Nat.le_of_ble_eq_true rfl)) rfl)) rfl rfl ?_
          refine same (t := 43) (u := i64 e) rfl (rfl) ?_
          refine lV (yAssign rfl) rfl rfl ?_
          refine lNil ?_
          refine kThen ?_
          refine kSeq ?_
          refine kRegion rfl ?_
          refine lV (yAssign rfl) rfl rfl ?_
          refine lNil ?_
          refine kThen ?_
          refine kSeq ?_
          refine kSeq ?_
          refine kRegion rfl ?_
          refine lV (yAssign rfl) rfl rfl ?_
          refine lNil ?_
          refine kThen ?_
          refine kBlock ?_
          refine kLoopX (ι := Nat) (fun i => i ≤ (scalesP p (knownP p)).length) (fun i => [(15, i64 (i : Nat)), (14, .bool (eSc p false e i).some)]) [(0, _), (1, _), (2, _), (3, _), (6, _), (7, _), (19, _), (20, _), (21, _), (22, _), (23, _), (24, _), (25, _), (26, _), (18, _), (27, _), (9, _), (28, _), (10, _), (29, _), (30, _), (11, _), (12, _), (34, _), (35, _), (38, _), (39, _), (40, _), (41, _), (42, _), (43, _), (13, _)] (fun i => []) (fun i => ([(n11, blk [i64 (eSc p false e i).lo, i64 (eSc p false e i).hi, i64 0, i64 0] 97)] ++ osL 3 g.1)) [(n40, _), (n7, _), (n6, _), (n3, _)] (fun i => (scalesP p (knownP p)).length - i) 0 (Nat.zero_le _) rfl (.c rfl (.c rfl .n)) (.c rfl (.c rfl (.c rfl (.c rfl (.c rfl (.c rfl (.c rfl (.c rfl (.c rfl (.c rfl (.c rfl (.c rfl (.c rfl (.c rfl (.c rfl (.c rfl (.c rfl (.c rfl (.c rfl (.c rfl (.c rfl (.c rfl (.c rfl (.c rfl (.c rfl (.c rfl (.c rfl (.c rfl (.c rfl (.c rfl (.c rfl (.c rfl .n)))))))))))))))))))))))))))))))) (.c 0 rfl (.c 0 rfl (.c 0 rfl (.c 0 rfl (.c 0 rfl .r))))) ?_
          rintro i hi
          refine kSeq ?_
          refine kSeq ?_
          refine kRegion rfl ?_
          refine lV (yMove rfl) rfl rfl ?_
          refine lV (yMove rfl) rfl rfl ?_
          refine lV (yLen rfl S56) rfl rfl ?_
          refine lV (yLss rfl rfl) rfl rfl ?_
          refine lNil ?_
          refine kThen ?_
          refine split (t := 47) rfl (fun h47 => ?_) (fun h47 => ?_)
          · refine kIfT rfl ?_
            refine kSkip ?_
            refine kThen ?_
            refine kSeq ?_
            refine kBlock ?_
            refine kSeq ?_
            have hmem := getD_mem (l := scalesP p (knownP p)) (i := i) (by omega) 0
            have hsc := mem_sc hp hmem
            have hcb := fun d => corn_bd (scalesP_mem.1 hmem).2 d
            have hc0 := hcb false
            have hc1 := hcb true
            refine kDrawE [(0, none), (1, none), (2, none), (5, none), (6, none), (9, none)] [] [0, 1, 2, 3, 4, 5, 6, 7, 8, 9] 2 hMix (by kernel_rfl) ?_
            refine .run rfl (yLoadA (vs := [_, _, _]) rfl A26 (cOwn 3 rfl rfl)) rfl rfl ?_
            refine .run rfl (yLoadA (vs := [_, _, _]) rfl A26 (cOwn 3 rfl rfl)) rfl rfl ?_
            refine .run rfl (yCall rfl (.c rfl .n) C38 (fun w hw => rknown_any y p w (hm.eff0 hw) (by omega))) rfl rfl ?_
            refine .run rfl (yMove rfl) rfl rfl ?_
            refine .run rfl (yMove rfl) rfl rfl ?_
            refine .run rfl (yIndexS  rfl rfl S56 ((fun w hw => (OS.rowsE (f := rowI) 0 g.2 hw (.d 0 (.d 0 (.d 0 (.d 0 (.d 0 .r)))))).congr hgl fun i _ => rfl)) ((by omega))) rfl rfl ?_
            refine .run rfl (yLoad1 rfl O3 (cSl0 ((fun w hw => (OS.rowsE (f := rowI) 0 g.2 hw (.d 0 (.d 0 (.d 0 (.d 0 (.d 0 .r)))))).congr hgl fun i _ => rfl)) ((by omega)) rfl)) rfl rfl ?_
            refine .run rfl (yMove rfl) rfl rfl ?_
            refine .run rfl (yvIs (c := false) (yEql rfl rfl) (by decide)) rfl rfl ?_
            refine .run rfl (yCall rfl (.c rfl (.c rfl (.c rfl (.c rfl .n)))) C62 (fun w hw => rcorner_any y p false ((scalesP p (knownP p)).getD i 0) (knownP p) w (hm.eff0 hw) hp (by omega) (known_ok p))) rfl rfl ?_
            refine .done ?_
            refine effStep 10 [] (by kernel_rfl) closedSt (hLeft [0, 1, 2, 5, 6, 9] (by kernel_rfl) (.c (fun _ _ hs => hs.ef) (.c (fun _ _ hs => hs.ef) (.c (fun _ _ hs => hs.ef) (.c (fun _ _ hs => hs.ef) (.c (fun _ _ hs => hs.ef) (.c (fun _ _ hs => hs.ef) .n))))))) ?_
            refine .c ?_ .n
            refine effOne rfl (gNone rfl (fAlloc Z23)) ?_
            refine effStep 11 [] (by kernel_rfl) (closedEx fun n16 => closedSt) (hLeft [0, 1, 2, 5, 6, 9] (by kernel_rfl) (.c (fun _ _ ⟨n16, hs⟩ => hs.ef.sub (.c 1 rfl (.c 1 rfl (.c 1 rfl (.c 1 rfl (.c 1 rfl (.d 0 .r))))))) (.c (fun _ _ ⟨n16, hs⟩ => hs.ef.sub (.c 1 rfl (.c 1 rfl (.c 1 rfl (.c 1 rfl (.c 1 rfl (.d 0 .r))))))) (.c (fun _ _ ⟨n16, hs⟩ => hs.ef.sub (.c 1 rfl (.c 1 rfl (.c 1 rfl (.c 1 rfl (.c 1 rfl (.d 0 .r))))))) (.c (fun _ _ ⟨n16, hs⟩ => hs.ef.sub (.c 1 rfl (.c 1 rfl (.c 1 rfl (.c 1 rfl (.c 1 rfl (.d 0 .r))))))) (.c (fun _ _ ⟨n16, hs⟩ => hs.ef.sub (.c 1 rfl (.c 1 rfl (.c 1 rfl (.c 1 rfl (.c 1 rfl (.d 0 .r))))))) (.c (fun _ _ ⟨n16, hs⟩ => hs.ef.sub (.c 1 rfl (.c 1 rfl (.c 1 rfl (.c 1 rfl (.c 1 rfl (.d 0 .r))))))) .n))))))) ?_
            refine .c ?_ .n
            refine effOne rfl (opEx fun n16 => (gNone rfl (fStoreL 0 rfl rfl rfl rfl K23 rfl (rfl)))) ?_
            refine effDone (closedEx fun n16 => closedSt) (hLeft [] (by kernel_rfl) .n) (by kernel_rfl) ?_
            refine trEx fun n16 => ?_
            refine kThen ?_
            refine kSeq ?_
            refine kRegion rfl ?_
            refine lV (yAssign rfl) rfl rfl ?_
            refine lNil ?_
            refine kThen ?_
            refine kBlock ?_
            refine kLoopX (ι := Nat) (fun x => x ≤ 32769) (fun x => [(17, i64 (x : Nat)), (14, .bool (eIn (cornP p false ((scalesP p (knownP p)).getD i 0) (knownP p)) e ((scalesP p (knownP p)).getD i 0) (eSc p false e i) x).some)]) [(0, _), (1, _), (2, _), (3, _), (6, _), (7, _), (19, _), (20, _), (21, _), (22, _), (23, _), (24, _), (25, _), (26, _), (18, _), (27, _), (9, _), (28, _), (10, _), (29, _), (30, _), (11, _), (12, _), (34, _), (35, _), (38, _), (39, _), (40, _), (41, _), (42, _), (43, _), (13, _), (15, _), (44, _), (45, _), (46, _), (47, _), (50, _), (51, _), (52, _), (53, _), (54, _), (55, _), (56, _), (57, _), (58, _), (59, _), (16, _)] (fun x => []) (fun x => ([(n11, blk [i64 (eIn (cornP p false ((scalesP p (knownP p)).getD i 0) (knownP p)) e ((scalesP p (knownP p)).getD i 0) (eSc p false e i) x).lo, i64 (eIn (cornP p false ((scalesP p (knownP p)).getD i 0) (knownP p)) e ((scalesP p (knownP p)).getD i 0) (eSc p false e i) x).hi, i64 0, i64 0] 97)] ++ osL 3 g.1)) [(n16, _), (n40, _), (n7, _), (n6, _), (n3, _)] (fun x => 32769 - x) 0 (Nat.zero_le _) rfl (.c rfl (.c rfl .n)) (.c rfl (.c rfl (.c rfl (.c rfl (.c rfl (.c rfl (.c rfl (.c rfl (.c rfl (.c rfl (.c rfl (.c rfl (.c rfl (.c rfl (.c rfl (.c rfl (.c rfl (.c rfl (.c rfl (.c rfl (.c rfl (.c rfl (.c rfl (.c rfl (.c rfl (.c rfl (.c rfl (.c rfl (.c rfl (.c rfl (.c rfl (.c rfl (.c rfl (.c rfl (.c rfl (.c rfl (.c rfl (.c rfl (.c rfl (.c rfl (.c rfl (.c rfl (.c rfl (.c rfl (.c rfl (.c rfl (.c rfl (.c rfl .n)))))))))))))))))))))))))))))))))))))))))))))))) (.c 0 rfl (.c 0 rfl (.c 0 rfl (.c 0 rfl (.c 0 rfl (.c 0 rfl .r)))))) ?_
            rintro x hx
            refine kSeq ?_
            refine kSeq ?_
            refine kRegion rfl ?_
            refine lV (yMove rfl) rfl rfl ?_
            refine lV (yLeq rfl rfl) rfl rfl ?_
            refine lNil ?_
            refine kThen ?_
            refine split (t := 61) rfl (fun h61 => ?_) (fun h61 => ?_)
            · refine kIfT rfl ?_
              refine kSkip ?_
              refine kThen ?_
              refine kSeq ?_
              refine kBlock ?_
              refine kSeq ?_
              have hsx := mul_bd (a := (scalesP p (knownP p)).getD i 0) (b := (x : Int)) (by omega) (by omega)
              refine kDrawE [(3, none), (4, none), (10, none), (12, none), (13, none)] [] [0, 1, 2, 3, 4, 5, 6, 7, 8, 9, 10, 11, 12, 13] 0 hMix (by kernel_rfl) ?_
              refine .run rfl (yMove rfl) rfl rfl ?_
              refine .run rfl (yMove rfl) rfl rfl ?_
              refine .run rfl (yMove rfl) rfl rfl ?_
              refine .run rfl (yIndexS  rfl rfl S56 ((fun w hw => (OS.rowsE (f := rowI) 0 g.2 hw (.d 0 (.d 0 (.d 0 (.d 0 (.d 0 (.d 0 .r))))))).congr hgl fun i _ => rfl)) ((by omega))) rfl rfl ?_
              refine .run rfl (yLoad1 rfl O3 (cSl0 ((fun w hw => (OS.rowsE (f := rowI) 0 g.2 hw (.d 0 (.d 0 (.d 0 (.d 0 (.d 0 (.d 0 .r))))))).congr hgl fun i _ => rfl)) ((by omega)) rfl)) rfl rfl ?_
              refine .run rfl (yMove rfl) rfl rfl ?_
              refine .run rfl (yMul rfl rfl (by omega)) rfl rfl ?_
              refine .run rfl (yQuo rfl rfl (by omega) (by omega) (by omega)) rfl rfl ?_
              refine .run rfl (ySub rfl rfl (by omega)) rfl rfl ?_
              refine .run rfl (yFieldAddr rfl F23_0) rfl rfl ?_
              refine .run rfl (yLoad1 rfl O3 (cOwn 0 rfl rfl)) rfl rfl ?_
              refine .run rfl (yFieldAddr rfl F23_1) rfl rfl ?_
              refine .run rfl (yLoad1 rfl O3 (cOwn 0 rfl rfl)) rfl rfl ?_
              refine .run rfl (yCall rfl (.c rfl (.c rfl (.c rfl .n))) C77 (fun w hw => rin_any _ _ _ w)) rfl rfl ?_
              refine .done ?_
              refine effDone closedSt (hLeft [3, 4, 10, 12, 13] (by kernel_rfl) (.c (fun _ _ hs => hs.ef) (.c (fun _ _ hs => hs.ef) (.c (fun _ _ hs => hs.ef) (.c (fun _ _ hs => hs.ef) (.c (fun _ _ hs => hs.ef) .n)))))) (by kernel_rfl) ?_
              refine kThen ?_
              refine splitB (t := 77) rfl (fun h77 => ?_) (fun h77 => ?_)
              · refine kIfT rfl ?_
                refine kSeq ?_
                refine kRegion rfl ?_
                refine lV (yMove rfl) rfl rfl ?_
                refine lV (yMove rfl) rfl rfl ?_
                refine lV (yIndexAr rfl rfl R97 (by omega) (by omega)) rfl rfl ?_
                refine lV (yLoadA (vs := [_, _]) rfl A23 (cOwn 5 rfl rfl)) rfl rfl ?_
                refine lV (yMove rfl) rfl rfl ?_
                refine lV (yMove rfl) rfl rfl ?_
                refine lV (yBuild (.c rfl (.c rfl .n)) (fun w => B23_0_1 w)) rfl rfl ?_
                refine lV (yMove rfl) rfl rfl ?_
                refine lV (yNot rfl) rfl rfl ?_
                refine lV (yCall rfl (.c rfl (.c rfl (.c rfl .n))) C61 (fun w hw => rhull_any ((eIn (cornP p false ((scalesP p (knownP p)).getD i 0) (knownP p)) e ((scalesP p (knownP p)).getD i 0) (eSc p false e i) x).lo, (eIn (cornP p false ((scalesP p (knownP p)).getD i 0) (knownP p)) e ((scalesP p (knownP p)).getD i 0) (eSc p false e i) x).hi) ((x : Int), (x : Int)) (!(eIn (cornP p false ((scalesP p (knownP p)).getD i 0) (knownP p)) e ((scalesP p (knownP p)).getD i 0) (eSc p false e i) x).some) w)) rfl rfl ?_
                refine same (t := 87) (u := .agg (rowE ((keepE (eIn (cornP p false ((scalesP p (knownP p)).getD i 0) (knownP p)) e ((scalesP p (knownP p)).getD i 0) (eSc p false e i) x) (x : Nat)).lo, (keepE (eIn (cornP p false ((scalesP p (knownP p)).getD i 0) (knownP p)) e ((scalesP p (knownP p)).getD i 0) (eSc p false e i) x) (x : Nat)).hi)).toArray) rfl (by rw [(keep_hull _ _).1]) ?_
                refine lV (yIndexAr rfl rfl R97 (by omega) (by omega)) rfl rfl ?_
                refine lE rfl ?_
                refine eStoreL 5 rfl rfl rfl rfl K23 rfl (rfl) ?_
                refine lNil ?_
                refine kThen ?_
                refine kRegion rfl ?_
                refine lV (yAssign rfl) rfl rfl ?_
                refine lNil ?_
                refine kInN ?_
                refine kThen ?_
                rw [show keepE (eIn (cornP p false ((scalesP p (knownP p)).getD i 0) (knownP p)) e ((scalesP p (knownP p)).getD i 0) (eSc p false e i) x) (x : Nat) = (eIn (cornP p false ((scalesP p (knownP p)).getD i 0) (knownP p)) e ((scalesP p (knownP p)).getD i 0) (eSc p false e i) (x + 1)) from by rw [eIn_succ, if_pos (show inF _ _ _ _ = true from h77)]]
                refine kRegion rfl ?_
                refine lV (yMove rfl) rfl rfl ?_
                refine lV (yAdd rfl rfl (by omega)) rfl rfl ?_
                refine lV (yAssign rfl) rfl rfl ?_
                refine lNil ?_
                exact kRoundX (x + 1) (by omega) (by omega) rfl (.c rfl (.c (by first | rfl | (show some (Value.bool _) = _; rw [eIn_succ, if_pos (show inF _ _ _ _ = true from h77), (keep_hull _ _).2])) .n)) (.c rfl (.c rfl (.c rfl (.c rfl (.c rfl (.c rfl (.c rfl (.c rfl (.c rfl (.c rfl (.c rfl (.c rfl (.c rfl (.c rfl (.c rfl (.c rfl (.c rfl (.c rfl (.c rfl (.c rfl (.c rfl (.c rfl (.c rfl (.c rfl (.c rfl (.c rfl (.c rfl (.c rfl (.c rfl (.c rfl (.c rfl (.c rfl (.c rfl (.c rfl (.c rfl (.c rfl (.c rfl (.c rfl (.c rfl (.c rfl (.c rfl (.c rfl (.c rfl (.c rfl (.c rfl (.c rfl (.c rfl (.c rfl .n)))))))))))))))))))))))))))))))))))))))))))))))) (.c 0 rfl (.c 0 rfl (.c 0 rfl (.c 0 rfl (.c 0 rfl (.c 0 rfl .r))))))
              · refine kIfF rfl ?_
                refine kSkip ?_
                refine kInN ?_
                refine kThen ?_
                rw [show (eIn (cornP p false ((scalesP p (knownP p)).getD i 0) (knownP p)) e ((scalesP p (knownP p)).getD i 0) (eSc p false e i) x) = (eIn (cornP p false ((scalesP p (knownP p)).getD i 0) (knownP p)) e ((scalesP p (knownP p)).getD i 0) (eSc p false e i) (x + 1)) from by rw [eIn_succ, if_neg (show ¬ inF _ _ _ _ = true from fun hh => Bool.false_ne_true (h77.symm.trans hh))]]
                refine kRegion rfl ?_
                refine lV (yMove rfl) rfl rfl ?_
                refine lV (yAdd rfl rfl (by omega)) rfl rfl ?_
                refine lV (yAssign rfl) rfl rfl ?_
                refine lNil ?_
                exact kRoundX (x + 1) (by omega) (by omega) rfl (.c rfl (.c (by first | rfl | (show some (Value.bool _) = _; rw [eIn_succ, if_pos (show inF _ _ _ _ = true from h77), (keep_hull _ _).2])) .n)) (.c rfl (.c rfl (.c rfl (.c rfl (.c rfl (.c rfl (.c rfl (.c rfl (.c rfl (.c rfl (.c rfl (.c rfl (.c rfl (.c rfl (.c rfl (.c rfl (.c rfl (.c rfl (.c rfl (.c rfl (.c rfl (.c rfl (.c rfl (.c rfl (.c rfl (.c rfl (.c rfl (.c rfl (.c rfl (.c rfl (.c rfl (.c rfl (.c rfl (.c rfl (.c rfl (.c rfl (.c rfl (.c rfl (.c rfl (.c rfl (.c rfl (.c rfl (.c rfl (.c rfl (.c rfl (.c rfl (.c rfl (.c rfl .n)))))))))))))))))))))))))))))))))))))))))))))))) (.c 0 rfl (.c 0 rfl (.c 0 rfl (.c 0 rfl (.c 0 rfl (.c 0 rfl .r))))))
            · refine kIfF rfl ?_
              refine kExit ?_
              refine kThenX ?_
              refine kThenX ?_
              refine kInX ?_
              refine kInN ?_
              refine kThen ?_
              obtain rfl : x = 32769 := by omega
              rw [← eSc_succ]
              refine kRegion rfl ?_
              refine lV (yMove rfl) rfl rfl ?_
              refine lV (yAdd rfl rfl (by omega)) rfl rfl ?_
              refine lV (yAssign rfl) rfl rfl ?_
              refine lNil ?_
              exact kRoundX (i + 1) (by omega) (by omega) rfl (.c rfl (.c rfl .n)) (.c rfl (.c rfl (.c rfl (.c rfl (.c rfl (.c rfl (.c rfl (.c rfl (.c rfl (.c rfl (.c rfl (.c rfl (.c rfl (.c rfl (.c rfl (.c rfl (.c rfl (.c rfl (.c rfl (.c rfl (.c rfl (.c rfl (.c rfl (.c rfl (.c rfl (.c rfl (.c rfl (.c rfl (.c rfl (.c rfl (.c rfl (.c rfl .n)))))))))))))))))))))))))))))))) (.c 1 rfl (.c 1 rfl (.c 1 rfl (.c 1 rfl (.c 1 rfl (.d 0 .r))))))
          · refine kIfF rfl ?_
            refine kExit ?_
            refine kThenX ?_
            refine kThenX ?_
            refine kInX ?_
            refine kThen ?_
            refine kSeq ?_
            obtain rfl : i = (scalesP p (knownP p)).length := by omega
            rw [eSc_all hp]
            refine kRegion rfl ?_
            refine lV (yMove rfl) rfl rfl ?_
            refine lV (yNot rfl) rfl rfl ?_
            refine splitB (t := 90) rfl (fun h90 => ?_) (fun h90 => ?_)
            · refine lNil ?_
              refine kThen ?_
              refine kIfT rfl ?_
              refine kSeq ?_
              refine kRegion rfl ?_
              refine lV (yBuild .n (fun w => B23_ w)) rfl rfl ?_
              refine lV (yBuild .n (fun w => B23_ w)) rfl rfl ?_
              refine lE rfl ?_
              refine eStoreL 2 rfl rfl rfl rfl K23 rfl (rfl) ?_
              refine lE rfl ?_
              refine eStoreL 1 rfl rfl rfl rfl K23 rfl (rfl) ?_
              refine lV (yAssign rfl) rfl rfl ?_
              refine lNil ?_
              refine kThen ?_
              refine kRet ?_
              refine kInR ?_
              refine kThenR ?_
              refine kThenR ?_
              refine kInR ?_
              refine kThenR ?_
              refine fRet rfl (.cA (us := [_, _]) rfl A23 (cOwn 2 rfl rfl) (.cA (us := [_, _]) rfl A23 (cOwn 1 rfl rfl) (.t rfl .n))) (endRet ?_)
              rw [if_neg (fun hh => by rw [hh.1] at h90; cases h90)]
              rfl
            · refine lNil ?_
              refine kThen ?_
              refine kIfF rfl ?_
              refine kSkip ?_
              refine kInN ?_
              refine kThen ?_
              refine kRegion rfl ?_
              refine lV (yMove rfl) rfl rfl ?_
              refine lV (yAdd rfl rfl (by omega)) rfl rfl ?_
              refine lV (yAssign rfl) rfl rfl ?_
              refine lNil ?_
              exact kRoundX 1 (⟨by omega, fun _ => by simpa using h90, fun h => absurd h (by omega)⟩) (by omega) rfl (.c rfl .n) (.c rfl (.c rfl (.c rfl (.c rfl (.c rfl (.c rfl (.c rfl (.c rfl (.c rfl (.c rfl (.c rfl (.c rfl (.c rfl (.c rfl (.c rfl (.c rfl (.c rfl (.c rfl (.c rfl (.c rfl (.c rfl (.c rfl .n)))))))))))))))))))))) (.c 1 rfl (.c 1 rfl (.c 1 rfl (.c 1 rfl (.d 0 .r)))))
        · obtain rfl : k = 1 := by omega
          refine kRegion rfl ?_
          refine lV (yMove rfl) rfl rfl ?_
          refine lV (yMove rfl) rfl rfl ?_
          refine lE rfl ?_
          refine eBuildSlice (.c rfl (.c rfl .n)) (fun w => BS56_2_0_1 w) fun n40 => ?_
          refine lV (yMove rfl) rfl rfl ?_
          refine lV (yIndexS  rfl rfl S56 ((fun w hw => sleRows (f := rowI) (fun _ => rfl) 0 [e, n] rfl (hw.blkAt 0 rfl))) ((Nat.le_of_ble_eq_true rfl))) rfl rfl ?_
          refine lV (yLoad1 rfl O3 (cSl0 ((fun w hw => sleRows (f := rowI) (fun _ => rfl) 0 [e, n] rfl (hw.blkAt 0 rfl))) ((Nat.le_of_ble_eq_true rfl)) rfl)) rfl rfl ?_
          refine same (t := 43) (u := i64 n) rfl (rfl) ?_
          refine lV (yAssign rfl) rfl rfl ?_
          refine lNil ?_
          refine kThen ?_
          refine kSeq ?_
          refine kRegion rfl ?_
          refine lV (yAssign rfl) rfl rfl ?_
          refine lNil ?_
          refine kThen ?_
          refine kSeq ?_
          refine kSeq ?_
          refine kRegion rfl ?_
          refine lV (yAssign rfl) rfl rfl ?_
          refine lNil ?_
          refine kThen ?_
          refine kBlock ?_
          refine kLoopX (ι := Nat) (fun i => i ≤ (scalesP p (knownP p)).length) (fun i => [(15, i64 (i : Nat)), (14, .bool (eSc p true n i).some)]) [(0, _), (1, _), (2, _), (3, _), (6, _), (7, _), (19, _), (20, _), (21, _), (22, _), (23, _), (24, _), (25, _), (26, _), (18, _), (27, _), (9, _), (28, _), (10, _), (29, _), (30, _), (11, _), (12, _), (34, _), (35, _), (38, _), (39, _), (40, _), (41, _), (42, _), (43, _), (13, _)] (fun i => []) (fun i => ([(n11, blk [i64 (findH p false e).lo, i64 (findH p false e).hi, i64 (eSc p true n i).lo, i64 (eSc p true n i).hi] 97)] ++ osL 3 g.1)) [(n40, _), (n7, _), (n6, _), (n3, _)] (fun i => (scalesP p (knownP p)).length - i) 0 (Nat.zero_le _) rfl (.c rfl (.c rfl .n)) (.c rfl (.c rfl (.c rfl (.c rfl (.c rfl (.c rfl (.c rfl (.c rfl (.c rfl (.c rfl (.c rfl (.c rfl (.c rfl (.c rfl (.c rfl (.c rfl (.c rfl (.c rfl (.c rfl (.c rfl (.c rfl (.c rfl (.c rfl (.c rfl (.c rfl (.c rfl (.c rfl (.c rfl (.c rfl (.c rfl (.c rfl (.c rfl .n)))))))))))))))))))))))))))))))) (.c 0 rfl (.c 0 rfl (.c 0 rfl (.c 0 rfl (.c 0 rfl .r))))) ?_
          rintro i hi
          refine kSeq ?_
          refine kSeq ?_
          refine kRegion rfl ?_
          refine lV (yMove rfl) rfl rfl ?_
          refine lV (yMove rfl) rfl rfl ?_
          refine lV (yLen rfl S56) rfl rfl ?_
          refine lV (yLss rfl rfl) rfl rfl ?_
          refine lNil ?_
          refine kThen ?_
          refine split (t := 47) rfl (fun h47 => ?_) (fun h47 => ?_)
          · refine kIfT rfl ?_
            refine kSkip ?_
            refine kThen ?_
            refine kSeq ?_
            refine kBlock ?_
            refine kSeq ?_
            have hmem := getD_mem (l := scalesP p (knownP p)) (i := i) (by omega) 0
            have hsc := mem_sc hp hmem
            have hcb := fun d => corn_bd (scalesP_mem.1 hmem).2 d
            have hc0 := hcb false
            have hc1 := hcb true
            refine kDrawE [(0, none), (1, none), (2, none), (5, none), (6, none), (9, none)] [] [0, 1, 2, 3, 4, 5, 6, 7, 8, 9] 2 hMix (by kernel_rfl) ?_
            refine .run rfl (yLoadA (vs := [_, _, _]) rfl A26 (cOwn 3 rfl rfl)) rfl rfl ?_
            refine .run rfl (yLoadA (vs := [_, _, _]) rfl A26 (cOwn 3 rfl rfl)) rfl rfl ?_
            refine .run rfl (yCall rfl (.c rfl .n) C38 (fun w hw => rknown_any y p w (hm.eff0 hw) (by omega))) rfl rfl ?_
            refine .run rfl (yMove rfl) rfl rfl ?_
            refine .run rfl (yMove rfl) rfl rfl ?_
            refine .run rfl (yIndexS  rfl rfl S56 ((fun w hw => (OS.rowsE (f := rowI) 0 g.2 hw (.d 0 (.d 0 (.d 0 (.d 0 (.d 0 .r)))))).congr hgl fun i _ => rfl)) ((by omega))) rfl rfl ?_
            refine .run rfl (yLoad1 rfl O3 (cSl0 ((fun w hw => (OS.rowsE (f := rowI) 0 g.2 hw (.d 0 (.d 0 (.d 0 (.d 0 (.d 0 .r)))))).congr hgl fun i _ => rfl)) ((by omega)) rfl)) rfl rfl ?_
            refine .run rfl (yMove rfl) rfl rfl ?_
            refine .run rfl (yvIs (c := true) (yEql rfl rfl) (by decide)) rfl rfl ?_
            refine .run rfl (yCall rfl (.c rfl (.c rfl (.c rfl (.c rfl .n)))) C62 (fun w hw => rcorner_any y p true ((scalesP p (knownP p)).getD i 0) (knownP p) w (hm.eff0 hw) hp (by omega) (known_ok p))) rfl rfl ?_
            refine .done ?_
            refine effStep 10 [] (by kernel_rfl) closedSt (hLeft [0, 1, 2, 5, 6, 9] (by kernel_rfl) (.c (fun _ _ hs => hs.ef) (.c (fun _ _ hs => hs.ef) (.c (fun _ _ hs => hs.ef) (.c (fun _ _ hs => hs.ef) (.c (fun _ _ hs => hs.ef) (.c (fun _ _ hs => hs.ef) .n))))))) ?_
            refine .c ?_ .n
            refine effOne rfl (gNone rfl (fAlloc Z23)) ?_
            refine effStep 11 [] (by kernel_rfl) (closedEx fun n16 => closedSt) (hLeft [0, 1, 2, 5, 6, 9] (by kernel_rfl) (.c (fun _ _ ⟨n16, hs⟩ => hs.ef.sub (.c 1 rfl (.c 1 rfl (.c 1 rfl (.c 1 rfl (.c 1 rfl (.d 0 .r))))))) (.c (fun _ _ ⟨n16, hs⟩ => hs.ef.sub (.c 1 rfl (.c 1 rfl (.c 1 rfl (.c 1 rfl (.c 1 rfl (.d 0 .r))))))) (.c (fun _ _ ⟨n16, hs⟩ => hs.ef.sub (.c 1 rfl (.c 1 rfl (.c 1 rfl (.c 1 rfl (.c 1 rfl (.d 0 .r))))))) (.c (fun _ _ ⟨n16, hs⟩ => hs.ef.sub (.c 1 rfl (.c 1 rfl (.c 1 rfl (.c 1 rfl (.c 1 rfl (.d 0 .r))))))) (.c (fun _ _ ⟨n16, hs⟩ => hs.ef.sub (.c 1 rfl (.c 1 rfl (.c 1 rfl (.c 1 rfl (.c 1 rfl (.d 0 .r))))))) (.c (fun _ _ ⟨n16, hs⟩ => hs.ef.sub (.c 1 rfl (.c 1 rfl (.c 1 rfl (.c 1 rfl (.c 1 rfl (.d 0 .r))))))) .n))))))) ?_
            refine .c ?_ .n
            refine effOne rfl (opEx fun n16 => (gNone rfl (fStoreL 0 rfl rfl rfl rfl K23 rfl (rfl)))) ?_
            refine effDone (closedEx fun n16 => closedSt) (hLeft [] (by kernel_rfl) .n) (by kernel_rfl) ?_
            refine trEx fun n16 => ?_
            refine kThen ?_
            refine kSeq ?_
            refine kRegion rfl ?_
            refine lV (yAssign rfl) rfl rfl ?_
            refine lNil ?_
            refine kThen ?_
            refine kBlock ?_
            refine kLoopX (ι := Nat) (fun x => x ≤ 32769) (fun x => [(17, i64 (x : Nat)), (14, .bool (eIn (cornP p true ((scalesP p (knownP p)).getD i 0) (knownP p)) n ((scalesP p (knownP p)).getD i 0) (eSc p true n i) x).some)]) [(0, _), (1, _), (2, _), (3, _), (6, _), (7, _), (19, _), (20, _), (21, _), (22, _), (23, _), (24, _), (25, _), (26, _), (18, _), (27, _), (9, _), (28, _), (10, _), (29, _), (30, _), (11, _), (12, _), (34, _), (35, _), (38, _), (39, _), (40, _), (41, _), (42, _), (43, _), (13, _), (15, _), (44, _), (45, _), (46, _), (47, _), (50, _), (51, _), (52, _), (53, _), (54, _), (55, _), (56, _), (57, _), (58, _), (59, _), (16, _)] (fun x => []) (fun x => ([(n11, blk [i64 (findH p false e).lo, i64 (findH p false e).hi, i64 (eIn (cornP p true ((scalesP p (knownP p)).getD i 0) (knownP p)) n ((scalesP p (knownP p)).getD i 0) (eSc p true n i) x).lo, i64 (eIn (cornP p true ((scalesP p (knownP p)).getD i 0) (knownP p)) n ((scalesP p (knownP p)).getD i 0) (eSc p true n i) x).hi] 97)] ++ osL 3 g.1)) [(n16, _), (n40, _), (n7, _), (n6, _), (n3, _)] (fun x => 32769 - x) 0 (Nat.zero_le _) rfl (.c rfl (.c rfl .n)) (.c rfl (.c rfl (.c rfl (.c rfl (.c rfl (.c rfl (.c rfl (.c rfl (.c rfl (.c rfl (.c rfl (.c rfl (.c rfl (.c rfl (.c rfl (.c rfl (.c rfl (.c rfl (.c rfl (.c rfl (.c rfl (.c rfl (.c rfl (.c rfl (.c rfl (.c rfl (.c rfl (.c rfl (.c rfl (.c rfl (.c rfl (.c rfl (.c rfl (.c rfl (.c rfl (.c rfl (.c rfl (.c rfl (.c rfl (.c rfl (.c rfl (.c rfl (.c rfl (.c rfl (.c rfl (.c rfl (.c rfl (.c rfl .n)))))))))))))))))))))))))))))))))))))))))))))))) (.c 0 rfl (.c 0 rfl (.c 0 rfl (.c 0 rfl (.c 0 rfl (.c 0 rfl .r)))))) ?_
            rintro x hx
            refine kSeq ?_
            refine kSeq ?_
            refine kRegion rfl ?_
            refine lV (yMove rfl) rfl rfl ?_
            refine lV (yLeq rfl rfl) rfl rfl ?_
            refine lNil ?_
            refine kThen ?_
            refine split (t := 61) rfl (fun h61 => ?_) (fun h61 => ?_)
            · refine kIfT rfl ?_
              refine kSkip ?_
              refine kThen ?_
              refine kSeq ?_
              refine kBlock ?_
              refine kSeq ?_
              have hsx := mul_bd (a := (scalesP p (knownP p)).getD i 0) (b := (x : Int)) (by omega) (by omega)
              refine kDrawE [(3, none), (4, none), (10, none), (12, none), (13, none)] [] [0, 1, 2, 3, 4, 5, 6, 7, 8, 9, 10, 11, 12, 13] 0 hMix (by kernel_rfl) ?_
              refine .run rfl (yMove rfl) rfl rfl ?_
              refine .run rfl (yMove rfl) rfl rfl ?_
              refine .run rfl (yMove rfl) rfl rfl ?_
              refine .run rfl (yIndexS  rfl rfl S56 ((fun w hw => (OS.rowsE (f := rowI) 0 g.2 hw (.d 0 (.d 0 (.d 0 (.d 0 (.d 0 (.d 0 .r))))))).congr hgl fun i _ => rfl)) ((by omega))) rfl rfl ?_
              refine .run rfl (yLoad1 rfl O3 (cSl0 ((fun w hw => (OS.rowsE (f := rowI) 0 g.2 hw (.d 0 (.d 0 (.d 0 (.d 0 (.d 0 (.d 0 .r))))))).congr hgl fun i _ => rfl)) ((by omega)) rfl)) rfl rfl ?_
              refine .run rfl (yMove rfl) rfl rfl ?_
              refine .run rfl (yMul rfl rfl (by omega)) rfl rfl ?_
              refine .run rfl (yQuo rfl rfl (by omega) (by omega) (by omega)) rfl rfl ?_
              refine .run rfl (ySub rfl rfl (by omega)) rfl rfl ?_
              refine .run rfl (yFieldAddr rfl F23_0) rfl rfl ?_
              refine .run rfl (yLoad1 rfl O3 (cOwn 0 rfl rfl)) rfl rfl ?_
              refine .run rfl (yFieldAddr rfl F23_1) rfl rfl ?_
              refine .run rfl (yLoad1 rfl O3 (cOwn 0 rfl rfl)) rfl rfl ?_
              refine .run rfl (yCall rfl (.c rfl (.c rfl (.c rfl .n))) C77 (fun w hw => rin_any _ _ _ w)) rfl rfl ?_
              refine .done ?_
              refine effDone closedSt (hLeft [3, 4, 10, 12, 13] (by kernel_rfl) (.c (fun _ _ hs => hs.ef) (.c (fun _ _ hs => hs.ef) (.c (fun _ _ hs => hs.ef) (.c (fun _ _ hs => hs.ef) (.c (fun _ _ hs => hs.ef) .n)))))) (by kernel_rfl) ?_
              refine kThen ?_
              refine splitB (t := 77) rfl (fun h77 => ?_) (fun h77 => ?_)
              · refine kIfT rfl ?_
                refine kSeq ?_
                refine kRegion rfl ?_
                refine lV (yMove rfl) rfl rfl ?_
                refine lV (yMove rfl) rfl rfl ?_
                refine lV (yIndexAr rfl rfl R97 (by omega) (by omega)) rfl rfl ?_
                refine lV (yLoadA (vs := [_, _]) rfl A23 (cOwn 5 rfl rfl)) rfl rfl ?_
                refine lV (yMove rfl) rfl rfl ?_
                refine lV (yMove rfl) rfl rfl ?_
                refine lV (yBuild (.c rfl (.c rfl .n)) (fun w => B23_0_1 w)) rfl rfl ?_
                refine lV (yMove rfl) rfl rfl ?_
                refine lV (yNot rfl) rfl rfl ?_
                refine lV (yCall rfl (.c rfl (.c rfl (.c rfl .n))) C61 (fun w hw => rhull_any ((eIn (cornP p true ((scalesP p (knownP p)).getD i 0) (knownP p)) n ((scalesP p (knownP p)).getD i 0) (eSc p true n i) x).lo, (eIn (cornP p true ((scalesP p (knownP p)).getD i 0) (knownP p)) n ((scalesP p (knownP p)).getD i 0) (eSc p true n i) x).hi) ((x : Int), (x : Int)) (!(eIn (cornP p true ((scalesP p (knownP p)).getD i 0) (knownP p)) n ((scalesP p (knownP p)).getD i 0) (eSc p true n i) x).some) w)) rfl rfl ?_
                refine same (t := 87) (u := .agg (rowE ((keepE (eIn (cornP p true ((scalesP p (knownP p)).getD i 0) (knownP p)) n ((scalesP p (knownP p)).getD i 0) (eSc p true n i) x) (x : Nat)).lo, (keepE (eIn (cornP p true ((scalesP p (knownP p)).getD i 0) (knownP p)) n ((scalesP p (knownP p)).getD i 0) (eSc p true n i) x) (x : Nat)).hi)).toArray) rfl (by rw [(keep_hull _ _).1]) ?_
                refine lV (yIndexAr rfl rfl R97 (by omega) (by omega)) rfl rfl ?_
                refine lE rfl ?_
                refine eStoreL 5 rfl rfl rfl rfl K23 rfl (rfl) ?_
                refine lNil ?_
                refine kThen ?_
                refine kRegion rfl ?_
                refine lV (yAssign rfl) rfl rfl ?_
                refine lNil ?_
                refine kInN ?_
                refine kThen ?_
                rw [show keepE (eIn (cornP p true ((scalesP p (knownP p)).getD i 0) (knownP p)) n ((scalesP p (knownP p)).getD i 0) (eSc p true n i) x) (x : Nat) = (eIn (cornP p true ((scalesP p (knownP p)).getD i 0) (knownP p)) n ((scalesP p (knownP p)).getD i 0) (eSc p true n i) (x + 1)) from by rw [eIn_succ, if_pos (show inF _ _ _ _ = true from h77)]]
                refine kRegion rfl ?_
                refine lV (yMove rfl) rfl rfl ?_
                refine lV (yAdd rfl rfl (by omega)) rfl rfl ?_
                refine lV (yAssign rfl) rfl rfl ?_
                refine lNil ?_
                exact kRoundX (x + 1) (by omega) (by omega) rfl (.c rfl (.c (by first | rfl | (show some (Value.bool _) = _; rw [eIn_succ, if_pos (show inF _ _ _ _ = true from h77), (keep_hull _ _).2])) .n)) (.c rfl (.c rfl (.c rfl (.c rfl (.c rfl (.c rfl (.c rfl (.c rfl (.c rfl (.c rfl (.c rfl (.c rfl (.c rfl (.c rfl (.c rfl (.c rfl (.c rfl (.c rfl (.c rfl (.c rfl (.c rfl (.c rfl (.c rfl (.c rfl (.c rfl (.c rfl (.c rfl (.c rfl (.c rfl (.c rfl (.c rfl (.c rfl (.c rfl (.c rfl (.c rfl (.c rfl (.c rfl (.c rfl (.c rfl (.c rfl (.c rfl (.c rfl (.c rfl (.c rfl (.c rfl (.c rfl (.c rfl (.c rfl .n)))))))))))))))))))))))))))))))))))))))))))))))) (.c 0 rfl (.c 0 rfl (.c 0 rfl (.c 0 rfl (.c 0 rfl (.c 0 rfl .r))))))
              · refine kIfF rfl ?_
                refine kSkip ?_
                refine kInN ?_
                refine kThen ?_
                rw [show (eIn (cornP p true ((scalesP p (knownP p)).getD i 0) (knownP p)) n ((scalesP p (knownP p)).getD i 0) (eSc p true n i) x) = (eIn (cornP p true ((scalesP p (knownP p)).getD i 0) (knownP p)) n ((scalesP p (knownP p)).getD i 0) (eSc p true n i) (x + 1)) from by rw [eIn_succ, if_neg (show ¬ inF _ _ _ _ = true from fun hh => Bool.false_ne_true (h77.symm.trans hh))]]
                refine kRegion rfl ?_
                refine lV (yMove rfl) rfl rfl ?_
                refine lV (yAdd rfl rfl (by omega)) rfl rfl ?_
                refine lV (yAssign rfl) rfl rfl ?_
                refine lNil ?_
                exact kRoundX (x + 1) (by omega) (by omega) rfl (.c rfl (.c (by first | rfl | (show some (Value.bool _) = _; rw [eIn_succ, if_pos (show inF _ _ _ _ = true from h77), (keep_hull _ _).2])) .n)) (.c rfl (.c rfl (.c rfl (.c rfl (.c rfl (.c rfl (.c rfl (.c rfl (.c rfl (.c rfl (.c rfl (.c rfl (.c rfl (.c rfl (.c rfl (.c rfl (.c rfl (.c rfl (.c rfl (.c rfl (.c rfl (.c rfl (.c rfl (.c rfl (.c rfl (.c rfl (.c rfl (.c rfl (.c rfl (.c rfl (.c rfl (.c rfl (.c rfl (.c rfl (.c rfl (.c rfl (.c rfl (.c rfl (.c rfl (.c rfl (.c rfl (.c rfl (.c rfl (.c rfl (.c rfl (.c rfl (.c rfl (.c rfl .n)))))))))))))))))))))))))))))))))))))))))))))))) (.c 0 rfl (.c 0 rfl (.c 0 rfl (.c 0 rfl (.c 0 rfl (.c 0 rfl .r))))))
            · refine kIfF rfl ?_
              refine kExit ?_
              refine kThenX ?_
              refine kThenX ?_
              refine kInX ?_
              refine kInN ?_
              refine kThen ?_
              obtain rfl : x = 32769 := by omega
              rw [← eSc_succ]
              refine kRegion rfl ?_
              refine lV (yMove rfl) rfl rfl ?_
              refine lV (yAdd rfl rfl (by omega)) rfl rfl ?_
              refine lV (yAssign rfl) rfl rfl ?_
              refine lNil ?_
              exact kRoundX (i + 1) (by omega) (by omega) rfl (.c rfl (.c rfl .n)) (.c rfl (.c rfl (.c rfl (.c rfl (.c rfl (.c rfl (.c rfl (.c rfl (.c rfl (.c rfl (.c rfl (.c rfl (.c rfl (.c rfl (.c rfl (.c rfl (.c rfl (.c rfl (.c rfl (.c rfl (.c rfl (.c rfl (.c rfl (.c rfl (.c rfl (.c rfl (.c rfl (.c rfl (.c rfl (.c rfl (.c rfl (.c rfl .n)))))))))))))))))))))))))))))))) (.c 1 rfl (.c 1 rfl (.c 1 rfl (.c 1 rfl (.c 1 rfl (.d 0 .r))))))
          · refine kIfF rfl ?_
            refine kExit ?_
            refine kThenX ?_
            refine kThenX ?_
            refine kInX ?_
            refine kThen ?_
            refine kSeq ?_
            obtain rfl : i = (scalesP p (knownP p)).length := by omega
            rw [eSc_all hp]
            refine kRegion rfl ?_
            refine lV (yMove rfl) rfl rfl ?_
            refine lV (yNot rfl) rfl rfl ?_
            refine splitB (t := 90) rfl (fun h90 => ?_) (fun h90 => ?_)
            · refine lNil ?_
              refine kThen ?_
              refine kIfT rfl ?_
              refine kSeq ?_
              refine kRegion rfl ?_
              refine lV (yBuild .n (fun w => B23_ w)) rfl rfl ?_
              refine lV (yBuild .n (fun w => B23_ w)) rfl rfl ?_
              refine lE rfl ?_
              refine eStoreL 2 rfl rfl rfl rfl K23 rfl (rfl) ?_
              refine lE rfl ?_
              refine eStoreL 1 rfl rfl rfl rfl K23 rfl (rfl) ?_
              refine lV (yAssign rfl) rfl rfl ?_
              refine lNil ?_
              refine kThen ?_
              refine kRet ?_
              refine kInR ?_
              refine kThenR ?_
              refine kThenR ?_
              refine kInR ?_
              refine kThenR ?_
              refine fRet rfl (.cA (us := [_, _]) rfl A23 (cOwn 2 rfl rfl) (.cA (us := [_, _]) rfl A23 (cOwn 1 rfl rfl) (.t rfl .n))) (endRet ?_)
              rw [if_neg (fun hh => by rw [hh.2] at h90; cases h90)]
              rfl
            · refine lNil ?_
              refine kThen ?_
              refine kIfF rfl ?_
              refine kSkip ?_
              refine kInN ?_
              refine kThen ?_
              refine kRegion rfl ?_
              refine lV (yMove rfl) rfl rfl ?_
              refine lV (yAdd rfl rfl (by omega)) rfl rfl ?_
              refine lV (yAssign rfl) rfl rfl ?_
              refine lNil ?_
              exact kRoundX 2 (⟨by omega, fun _ => hf1 (by omega), fun _ => by simpa using h90⟩) (by omega) rfl (.c rfl .n) (.c rfl (.c rfl (.c rfl (.c rfl (.c rfl (.c rfl (.c rfl (.c rfl (.c rfl (.c rfl (.c rfl (.c rfl (.c rfl (.c rfl (.c rfl (.c rfl (.c rfl (.c rfl (.c rfl (.c rfl (.c rfl (.c rfl .n)))))))))))))))))))))) (.c 1 rfl (.c 1 rfl (.c 1 rfl (.c 1 rfl (.d 0 .r)))))
      · refine kIfF rfl ?_
        refine kExit ?_
        refine kThenX ?_
        refine kThenX ?_
        refine kInX ?_
        refine kThen ?_
        refine kSeq ?_
        obtain rfl : k = 2 := by omega
        refine kDrawE [(1, none), (3, some [0, 2, 3])] [] [0, 1, 2, 3, 6] 2 hMix (by kernel_rfl) ?_
        refine .run rfl (yIndexAr rfl rfl R97 (by omega) (by omega)) rfl rfl ?_
        refine .run rfl (yLoadA (vs := [_, _]) rfl A23 (cOwn 3 rfl rfl)) rfl rfl ?_
        refine .run rfl (yIndexAr rfl rfl R97 (by omega) (by omega)) rfl rfl ?_
        refine .run rfl (yLoadA (vs := [_, _]) rfl A23 (cOwn 2 rfl rfl)) rfl rfl ?_
        refine .run rfl (yAssign rfl) rfl rfl ?_
        refine .done ?_
        refine effStep 4 [] (by kernel_rfl) closedSt (hLeft [1, 3] (by kernel_rfl) (.c (fun _ _ hs => hs.ef) (.c (fun _ _ hs => hs.ef.sub (.c 0 rfl (.c 1 rfl (.c 1 rfl .n)))) .n))) ?_
        refine .c ?_ .n
        refine effOne rfl (gNone rfl (fStoreL 1 rfl rfl rfl rfl K23 rfl (rfl))) ?_
        refine effStep 5 [] (by kernel_rfl) closedSt (hLeft [3] (by kernel_rfl) (.c (fun _ _ hs => hs.ef.sub (.c 0 rfl (.c 1 rfl (.c 1 rfl .n)))) .n)) ?_
        refine .c ?_ .n
        refine effOne rfl (gNone rfl (fStoreL 0 rfl rfl rfl rfl K23 rfl (rfl))) ?_
        refine effDone closedSt (hLeft [] (by kernel_rfl) .n) (by kernel_rfl) ?_
        refine kThen ?_
        refine kRet ?_
        refine fRet rfl (.cA (us := [_, _]) rfl A23 (cOwn 1 rfl rfl) (.cA (us := [_, _]) rfl A23 (cOwn 0 rfl rfl) (.t rfl .n))) (endRet ?_)
        rw [if_pos ⟨hf1 (by omega), hf2 (by omega)⟩]
        rfl
  · refine effOne rfl (opEx fun g => (gNone rfl (fV (yExtract rfl rfl) rfl))) ?_
    refine effStep 9 [] (by kernel_rfl) (closedEx fun g => closedSt) (hLeft [] (by kernel_rfl) .n) ?_
    refine .c ?_ .n
    refine effOne rfl (opEx fun g => (gNone rfl (fV (yExtract rfl rfl) rfl))) ?_
    refine effStep 11 [] (by kernel_rfl) (closedEx fun g => closedSt) (hLeft [] (by kernel_rfl) .n) ?_
    refine .c ?_ .n
    refine effOne rfl (opEx fun g => (gNone rfl (fV (yAssign rfl) rfl))) ?_
    refine effStep 12 [] (by kernel_rfl) (closedEx fun g => closedSt) (hLeft [] (by kernel_rfl) .n) ?_
    refine .c ?_ .n
    refine effOne rfl (opEx fun g => (gNone rfl (fV (yAssign rfl) rfl))) ?_
    refine effDone (closedEx fun g => closedSt) (hLeft [] (by kernel_rfl) .n) (by kernel_rfl) ?_
    refine trEx fun g => ?_
    refine kThen ?_
    refine kSeq ?_
    refine kSeq ?_
    refine kRegion rfl ?_
    refine lV (yMove rfl) rfl rfl ?_
    refine lV (yNeq rfl rfl) rfl rfl ?_
    refine knownB (t := 30) (c := false) rfl (by simp) ?_
    refine lNil ?_
    refine kThen ?_
    refine kIfF rfl ?_
    refine kSkip ?_
    refine kThen ?_
    refine kSeq ?_
    refine kRegion rfl ?_
    refine lE rfl ?_
    refine eAlloc Z97 fun n11 => ?_
    refine lNil ?_
    refine kThen ?_
    refine kSeq ?_
    refine kSeq ?_
    refine kRegion rfl ?_
    refine lV (yAssign rfl) rfl rfl ?_
    refine lNil ?_
    refine kThen ?_
    refine kBlock ?_
    refine kLoopX (ι := Nat) (fun k => k ≤ 2 ∧ (1 ≤ k → (findH p false e).some = true) ∧ (2 ≤ k → (findH p true n).some = true)) (fun k => [(12, i64 (k : Nat))]) [(0, _), (1, _), (2, _), (3, _), (6, _), (7, _), (19, _), (20, _), (21, _), (22, _), (23, _), (24, _), (25, _), (26, _), (18, _), (28, _), (27, _), (9, _), (10, _), (29, _), (30, _), (11, _)] (fun k => []) (fun k => ([(n11, blk (arrF p e n k) 97)] ++ osL 3 g.1)) [(n7, _), (n6, _), (n3, _)] (fun k => 2 - k) 0 (⟨by omega, fun h => absurd h (by omega), fun h => absurd h (by omega)⟩) rfl (.c rfl .n) (.c rfl (.c rfl (.c rfl (.c rfl (.c rfl (.c rfl (.c rfl (.c rfl (.c rfl (.c rfl (.c rfl (.c rfl (.c rfl (.c rfl (.c rfl (.c rfl (.c rfl (.c rfl (.c rfl (.c rfl (.c rfl (.c rfl .n)))))))))))))))))))))) (.c 1 rfl (.c 1 rfl (.c 1 rfl (.c 0 rfl .r)))) ?_
    rintro k ⟨hk2, hf1, hf2⟩
    refine kSeq ?_
    refine kSeq ?_
    have hgl : ((scalesP p (knownP p)).map rowI).length = (scalesP p (knownP p)).length := List.length_map _
    refine kRegion rfl ?_
    refine lV (yMove rfl) rfl rfl ?_
    refine lV (yLss rfl rfl) rfl rfl ?_
    refine lNil ?_
    refine kThen ?_
    refine split (t := 35) rfl (fun h35 => ?_) (fun h35 => ?_)
    · refine kIfT rfl ?_
      refine kSkip ?_
      refine kThen ?_
      refine kSeq ?_
      refine kBlock ?_
      refine kSeq ?_
      by_cases hk0 : k = 0
      · obtain rfl : k = 0 := hk0
        refine kRegion rfl ?_
        refine lV (yMove rfl) rfl rfl ?_
        refine lV (yMove rfl) rfl rfl ?_
        refine lE rfl ?_
        refine eBuildSlice (.c rfl (.c rfl .n)) (fun w => BS56_2_0_1 w) fun n40 => ?_
        refine lV (yMove rfl) rfl rfl ?_
        refine lV (yIndexS  rfl rfl S56 ((fun w hw => sleRows (f := rowI) (fun _ => rfl) 0 [e, n] rfl (hw.blkAt 0 rfl))) ((Nat.le_of_ble_eq_true rfl))) rfl rfl ?_
        refine lV (yLoad1 rfl O3 (cSl0 ((fun w hw => sleRows (f := rowI) (fun _ => rfl) 0 [e, n] rfl (hw.blkAt 0 rfl))) ((Nat.le_of_ble_eq_true rfl)) rfl)) rfl rfl ?_
        refine same (t := 43) (u := i64 e) rfl (rfl) ?_
        refine lV (yAssign rfl) rfl rfl ?_
        refine lNil ?_
        refine kThen ?_
        refine kSeq ?_
        refine kRegion rfl ?_
        refine lV (yAssign rfl) rfl rfl ?_
        refine lNil ?_
        refine kThen ?_
        refine kSeq ?_
        refine kSeq ?_
        refine kRegion rfl ?_
        refine lV (yAssign rfl) rfl rfl ?_
        refine lNil ?_
        refine kThen ?_
        refine kBlock ?_
        refine kLoopX (ι := Nat) (fun i => i ≤ (scalesP p (knownP p)).length) (fun i => [(15, i64 (i : Nat)), (14, .bool (eSc p false e i).some)]) [(0, _), (1, _), (2, _), (3, _), (6, _), (7, _), (19, _), (20, _), (21, _), (22, _), (23, _), (24, _), (25, _), (26, _), (18, _), (28, _), (27, _), (9, _), (10, _), (29, _), (30, _), (11, _), (12, _), (34, _), (35, _), (38, _), (39, _), (40, _), (41, _), (42, _), (43, _), (13, _)] (fun i => []) (fun i => ([(n11, blk [i64 (eSc p false e i).lo, i64 (eSc p false e i).hi, i64 0, i64 0] 97)] ++ osL 3 g.1)) [(n40, _), (n7, _), (n6, _), (n3, _)] (fun i => (scalesP p (knownP p)).length - i) 0 (Nat.zero_le _) rfl (.c rfl (.c rfl .n)) (.c rfl (.c rfl (.c rfl (.c rfl (.c rfl (.c rfl (.c rfl (.c rfl (.c rfl (.c rfl (.c rfl (.c rfl (.c rfl (.c rfl (.c rfl (.c rfl (.c rfl (.c rfl (.c rfl (.c rfl (.c rfl (.c rfl (.c rfl (.c rfl (.c rfl (.c rfl (.c rfl (.c rfl (.c rfl (.c rfl (.c rfl (.c rfl .n)))))))))))))))))))))))))))))))) (.c 0 rfl (.c 0 rfl (.c 0 rfl (.c 0 rfl (.c 0 rfl .r))))) ?_
        rintro i hi
        refine kSeq ?_
        refine kSeq ?_
        refine kRegion rfl ?_
        refine lV (yMove rfl) rfl rfl ?_
        refine lV (yMove rfl) rfl rfl ?_
        refine lV (yLen rfl S56) rfl rfl ?_
        refine lV (yLss rfl rfl) rfl rfl ?_
        refine lNil ?_
        refine kThen ?_
        refine split (t := 47) rfl (fun h47 => ?_) (fun h47 => ?_)
        · refine kIfT rfl ?_
          refine kSkip ?_
          refine kThen ?_
          refine kSeq ?_
          refine kBlock ?_
          refine kSeq ?_
          have hmem := getD_mem (l := scalesP p (knownP p)) (i := i) (by omega) 0
          have hsc := mem_sc hp hmem
          have hcb := fun d => corn_bd (scalesP_mem.1 hmem).2 d
          have hc0 := hcb false
          have hc1 := hcb true
          refine kDrawE [(0, none), (1, none), (2, none), (5, none), (6, none), (9, none)] [] [0, 1, 2, 3, 4, 5, 6, 7, 8, 9] 2 hMix (by kernel_rfl) ?_
          refine .run rfl (yLoadA (vs := [_, _, _]) rfl A26 (cOwn 3 rfl rfl)) rfl rfl ?_
          refine .run rfl (yLoadA (vs := [_, _, _]) rfl A26 (cOwn 3 rfl rfl)) rfl rfl ?_
          refine .run rfl (yCall rfl (.c rfl .n) C38 (fun w hw => rknown_any y p w (hm.eff0 hw) (by omega))) rfl rfl ?_
          refine .run rfl (yMove rfl) rfl rfl ?_
          refine .run rfl (yMove rfl) rfl rfl ?_
          refine .run rfl (yIndexS  rfl rfl S56 ((fun w hw => (OS.rowsE (f := rowI) 0 g.2 hw (.d 0 (.d 0 (.d 0 (.d 0 (.d 0 .r)))))).congr hgl fun i _ => rfl)) ((by omega))) rfl rfl ?_
          refine .run rfl (yLoad1 rfl O3 (cSl0 ((fun w hw => (OS.rowsE (f := rowI) 0 g.2 hw (.d 0 (.d 0 (.d 0 (.d 0 (.d 0 .r)))))).congr hgl fun i _ => rfl)) ((by omega)) rfl)) rfl rfl ?_
          refine .run rfl (yMove rfl) rfl rfl ?_
          refine .run rfl (yvIs (c := false) (yEql rfl rfl) (by decide)) rfl rfl ?_
          refine .run rfl (yCall rfl (.c rfl (.c rfl (.c rfl (.c rfl .n)))) C62 (fun w hw => rcorner_any y p false ((scalesP p (knownP p)).getD i 0) (knownP p) w (hm.eff0 hw) hp (by omega) (known_ok p))) rfl rfl ?_
          refine .done ?_
          refine effStep 10 [] (by kernel_rfl) closedSt (hLeft [0, 1, 2, 5, 6, 9] (by kernel_rfl) (.c (fun _ _ hs => hs.ef) (.c (fun _ _ hs => hs.ef) (.c (fun _ _ hs => hs.ef) (.c (fun _ _ hs => hs.ef) (.c (fun _ _ hs => hs.ef) (.c (fun _ _ hs => hs.ef) .n))))))) ?_
          refine .c ?_ .n
          refine effOne rfl (gNone rfl (fAlloc Z23)) ?_
          refine effStep 11 [] (by kernel_rfl) (closedEx fun n16 => closedSt) (hLeft [0, 1, 2, 5, 6, 9] (by kernel_rfl) (.c (fun _ _ ⟨n16, hs⟩ => hs.ef.sub (.c 1 rfl (.c 1 rfl (.c 1 rfl (.c 1 rfl (.c 1 rfl (.d 0 .r))))))) (.c (fun _ _ ⟨n16, hs⟩ => hs.ef.sub (.c 1 rfl (.c 1 rfl (.c 1 rfl (.c 1 rfl (.c 1 rfl (.d 0 .r))))))) (.c (fun _ _ ⟨n16, hs⟩ => hs.ef.sub (.c 1 rfl (.c 1 rfl (.c 1 rfl (.c 1 rfl (.c 1 rfl (.d 0 .r))))))) (.c (fun _ _ ⟨n16, hs⟩ => hs.ef.sub (.c 1 rfl (.c 1 rfl (.c 1 rfl (.c 1 rfl (.c 1 rfl (.d 0 .r))))))) (.c (fun _ _ ⟨n16, hs⟩ => hs.ef.sub (.c 1 rfl (.c 1 rfl (.c 1 rfl (.c 1 rfl (.c 1 rfl (.d 0 .r))))))) (.c (fun _ _ ⟨n16, hs⟩ => hs.ef.sub (.c 1 rfl (.c 1 rfl (.c 1 rfl (.c 1 rfl (.c 1 rfl (.d 0 .r))))))) .n))))))) ?_
          refine .c ?_ .n
          refine effOne rfl (opEx fun n16 => (gNone rfl (fStoreL 0 rfl rfl rfl rfl K23 rfl (rfl)))) ?_
          refine effDone (closedEx fun n16 => closedSt) (hLeft [] (by kernel_rfl) .n) (by kernel_rfl) ?_
          refine trEx fun n16 => ?_
          refine kThen ?_
          refine kSeq ?_
          refine kRegion rfl ?_
          refine lV (yAssign rfl) rfl rfl ?_
          refine lNil ?_
          refine kThen ?_
          refine kBlock ?_
          refine kLoopX (ι := Nat) (fun x => x ≤ 32769) (fun x => [(17, i64 (x : Nat)), (14, .bool (eIn (cornP p false ((scalesP p (knownP p)).getD i 0) (knownP p)) e ((scalesP p (knownP p)).getD i 0) (eSc p false e i) x).some)]) [(0, _), (1, _), (2, _), (3, _), (6, _), (7, _), (19, _), (20, _), (21, _), (22, _), (23, _), (24, _), (25, _), (26, _), (18, _), (28, _), (27, _), (9, _), (10, _), (29, _), (30, _), (11, _), (12, _), (34, _), (35, _), (38, _), (39, _), (40, _), (41, _), (42, _), (43, _), (13, _), (15, _), (44, _), (45, _), (46, _), (47, _), (50, _), (51, _), (52, _), (53, _), (54, _), (55, _), (56, _), (57, _), (58, _), (59, _), (16, _)] (fun x => []) (fun x => ([(n11, blk [i64 (eIn (cornP p false ((scalesP p (knownP p)).getD i 0) (knownP p)) e ((scalesP p (knownP p)).getD i 0) (eSc p false e i) x).lo, i64 (eIn (cornP p false ((scalesP p (knownP p)).getD i 0) (knownP p)) e ((scalesP p (knownP p)).getD i 0) (eSc p false e i) x).hi, i64 0, i64 0] 97)] ++ osL 3 g.1)) [(n16, _), (n40, _), (n7, _), (n6, _), (n3, _)] (fun x => 32769 - x) 0 (Nat.zero_le _) rfl (.c rfl (.c rfl .n)) (.c rfl (.c rfl (.c rfl (.c rfl (.c rfl (.c rfl (.c rfl (.c rfl (.c rfl (.c rfl (.c rfl (.c rfl (.c rfl (.c rfl (.c rfl (.c rfl (.c rfl (.c rfl (.c rfl (.c rfl (.c rfl (.c rfl (.c rfl (.c rfl (.c rfl (.c rfl (.c rfl (.c rfl (.c rfl (.c rfl (.c rfl (.c rfl (.c rfl (.c rfl (.c rfl (.c rfl (.c rfl (.c rfl (.c rfl (.c rfl (.c rfl (.c rfl (.c rfl (.c rfl (.c rfl (.c rfl (.c rfl (.c rfl .n)))))))))))))))))))))))))))))))))))))))))))))))) (.c 0 rfl (.c 0 rfl (.c 0 rfl (.c 0 rfl (.c 0 rfl (.c 0 rfl .r)))))) ?_
          rintro x hx
          refine kSeq ?_
          refine kSeq ?_
          refine kRegion rfl ?_
          refine lV (yMove rfl) rfl rfl ?_
          refine lV (yLeq rfl rfl) rfl rfl ?_
          refine lNil ?_
          refine kThen ?_
          refine split (t := 61) rfl (fun h61 => ?_) (fun h61 => ?_)
          · refine kIfT rfl ?_
            refine kSkip ?_
            refine kThen ?_
            refine kSeq ?_
            refine kBlock ?_
            refine kSeq ?_
            have hsx := mul_bd (a := (scalesP p (knownP p)).getD i 0) (b := (x : Int)) (by omega) (by omega)
            refine kDrawE [(3, none), (4, none), (10, none), (12, none), (13, none)] [] [0, 1, 2, 3, 4, 5, 6, 7, 8, 9, 10, 11, 12, 13] 0 hMix (by kernel_rfl) ?_
            refine .run rfl (yMove rfl) rfl rfl ?_
            refine .run rfl (yMove rfl) rfl rfl ?_
            refine .run rfl (yMove rfl) rfl rfl ?_
            refine .run rfl (yIndexS  rfl rfl S56 ((fun w hw => (OS.rowsE (f := rowI) 0 g.2 hw (.d 0 (.d 0 (.d 0 (.d 0 (.d 0 (.d 0 .r))))))).congr hgl fun i _ => rfl)) ((by omega))) rfl rfl ?_
            refine .run rfl (yLoad1 rfl O3 (cSl0 ((fun w hw => (OS.rowsE (f := rowI) 0 g.2 hw (.d 0 (.d 0 (.d 0 (.d 0 (.d 0 (.d 0 .r))))))).congr hgl fun i _ => rfl)) ((by omega)) rfl)) rfl rfl ?_
            refine .run rfl (yMove rfl) rfl rfl ?_
            refine .run rfl (yMul rfl rfl (by omega)) rfl rfl ?_
            refine .run rfl (yQuo rfl rfl (by omega) (by omega) (by omega)) rfl rfl ?_
            refine .run rfl (ySub rfl rfl (by omega)) rfl rfl ?_
            refine .run rfl (yFieldAddr rfl F23_0) rfl rfl ?_
            refine .run rfl (yLoad1 rfl O3 (cOwn 0 rfl rfl)) rfl rfl ?_
            refine .run rfl (yFieldAddr rfl F23_1) rfl rfl ?_
            refine .run rfl (yLoad1 rfl O3 (cOwn 0 rfl rfl)) rfl rfl ?_
            refine .run rfl (yCall rfl (.c rfl (.c rfl (.c rfl .n))) C77 (fun w hw => rin_any _ _ _ w)) rfl rfl ?_
            refine .done ?_
            refine effDone closedSt (hLeft [3, 4, 10, 12, 13] (by kernel_rfl) (.c (fun _ _ hs => hs.ef) (.c (fun _ _ hs => hs.ef) (.c (fun _ _ hs => hs.ef) (.c (fun _ _ hs => hs.ef) (.c (fun _ _ hs => hs.ef) .n)))))) (by kernel_rfl) ?_
            refine kThen ?_
            refine splitB (t := 77) rfl (fun h77 => ?_) (fun h77 => ?_)
            · refine kIfT rfl ?_
              refine kSeq ?_
              refine kRegion rfl ?_
              refine lV (yMove rfl) rfl rfl ?_
              refine lV (yMove rfl) rfl rfl ?_
              refine lV (yIndexAr rfl rfl R97 (by omega) (by omega)) rfl rfl ?_
              refine lV (yLoadA (vs := [_, _]) rfl A23 (cOwn 5 rfl rfl)) rfl rfl ?_
              refine lV (yMove rfl) rfl rfl ?_
              refine lV (yMove rfl) rfl rfl ?_
              refine lV (yBuild (.c rfl (.c rfl .n)) (fun w => B23_0_1 w)) rfl rfl ?_
              refine lV (yMove rfl) rfl rfl ?_
              refine lV (yNot rfl) rfl rfl ?_
              refine lV (yCall rfl (.c rfl (.c rfl (.c rfl .n))) C61 (fun w hw => rhull_any ((eIn (cornP p false ((scalesP p (knownP p)).getD i 0) (knownP p)) e ((scalesP p (knownP p)).getD i 0) (eSc p false e i) x).lo, (eIn (cornP p false ((scalesP p (knownP p)).getD i 0) (knownP p)) e ((scalesP p (knownP p)).getD i 0) (eSc p false e i) x).hi) ((x : Int), (x : Int)) (!(eIn (cornP p false ((scalesP p (knownP p)).getD i 0) (knownP p)) e ((scalesP p (knownP p)).getD i 0) (eSc p false e i) x).some) w)) rfl rfl ?_
              refine same (t := 87) (u := .agg (rowE ((keepE (eIn (cornP p false ((scalesP p (knownP p)).getD i 0) (knownP p)) e ((scalesP p (knownP p)).getD i 0) (eSc p false e i) x) (x : Nat)).lo, (keepE (eIn (cornP p false ((scalesP p (knownP p)).getD i 0) (knownP p)) e ((scalesP p (knownP p)).getD i 0) (eSc p false e i) x) (x : Nat)).hi)).toArray) rfl (by rw [(keep_hull _ _).1]) ?_
              refine lV (yIndexAr rfl rfl R97 (by omega) (by omega)) rfl rfl ?_
              refine lE rfl ?_
              refine eStoreL 5 rfl rfl rfl rfl K23 rfl (rfl) ?_
              refine lNil ?_
              refine kThen ?_
              refine kRegion rfl ?_
              refine lV (yAssign rfl) rfl rfl ?_
              refine lNil ?_
              refine kInN ?_
              refine kThen ?_
              rw [show keepE (eIn (cornP p false ((scalesP p (knownP p)).getD i 0) (knownP p)) e ((scalesP p (knownP p)).getD i 0) (eSc p false e i) x) (x : Nat) = (eIn (cornP p false ((scalesP p (knownP p)).getD i 0) (knownP p)) e ((scalesP p (knownP p)).getD i 0) (eSc p false e i) (x + 1)) from by rw [eIn_succ, if_pos (show inF _ _ _ _ = true from h77)]]
              refine kRegion rfl ?_
              refine lV (yMove rfl) rfl rfl ?_
              refine lV (yAdd rfl rfl (by omega)) rfl rfl ?_
              refine lV (yAssign rfl) rfl rfl ?_
              refine lNil ?_
              exact kRoundX (x + 1) (by omega) (by omega) rfl (.c rfl (.c (by first | rfl | (show some (Value.bool _) = _; rw [eIn_succ, if_pos (show inF _ _ _ _ = true from h77), (keep_hull _ _).2])) .n)) (.c rfl (.c rfl (.c rfl (.c rfl (.c rfl (.c rfl (.c rfl (.c rfl (.c rfl (.c rfl (.c rfl (.c rfl (.c rfl (.c rfl (.c rfl (.c rfl (.c rfl (.c rfl (.c rfl (.c rfl (.c rfl (.c rfl (.c rfl (.c rfl (.c rfl (.c rfl (.c rfl (.c rfl (.c rfl (.c rfl (.c rfl (.c rfl (.c rfl (.c rfl (.c rfl (.c rfl (.c rfl (.c rfl (.c rfl (.c rfl (.c rfl (.c rfl (.c rfl (.c rfl (.c rfl (.c rfl (.c rfl (.c rfl .n)))))))))))))))))))))))))))))))))))))))))))))))) (.c 0 rfl (.c 0 rfl (.c 0 rfl (.c 0 rfl (.c 0 rfl (.c 0 rfl .r))))))
            · refine kIfF rfl ?_
              refine kSkip ?_
              refine kInN ?_
              refine kThen ?_
              rw [show (eIn (cornP p false ((scalesP p (knownP p)).getD i 0) (knownP p)) e ((scalesP p (knownP p)).getD i 0) (eSc p false e i) x) = (eIn (cornP p false ((scalesP p (knownP p)).getD i 0) (knownP p)) e ((scalesP p (knownP p)).getD i 0) (eSc p false e i) (x + 1)) from by rw [eIn_succ, if_neg (show ¬ inF _ _ _ _ = true from fun hh => Bool.false_ne_true (h77.symm.trans hh))]]
              refine kRegion rfl ?_
              refine lV (yMove rfl) rfl rfl ?_
              refine lV (yAdd rfl rfl (by omega)) rfl rfl ?_
              refine lV (yAssign rfl) rfl rfl ?_
              refine lNil ?_
              exact kRoundX (x + 1) (by omega) (by omega) rfl (.c rfl (.c (by first | rfl | (show some (Value.bool _) = _; rw [eIn_succ, if_pos (show inF _ _ _ _ = true from h77), (keep_hull _ _).2])) .n)) (.c rfl (.c rfl (.c rfl (.c rfl (.c rfl (.c rfl (.c rfl (.c rfl (.c rfl (.c rfl (.c rfl (.c rfl (.c rfl (.c rfl (.c rfl (.c rfl (.c rfl (.c rfl (.c rfl (.c rfl (.c rfl (.c rfl (.c rfl (.c rfl (.c rfl (.c rfl (.c rfl (.c rfl (.c rfl (.c rfl (.c rfl (.c rfl (.c rfl (.c rfl (.c rfl (.c rfl (.c rfl (.c rfl (.c rfl (.c rfl (.c rfl (.c rfl (.c rfl (.c rfl (.c rfl (.c rfl (.c rfl (.c rfl .n)))))))))))))))))))))))))))))))))))))))))))))))) (.c 0 rfl (.c 0 rfl (.c 0 rfl (.c 0 rfl (.c 0 rfl (.c 0 rfl .r))))))
          · refine kIfF rfl ?_
            refine kExit ?_
            refine kThenX ?_
            refine kThenX ?_
            refine kInX ?_
            refine kInN ?_
            refine kThen ?_
            obtain rfl : x = 32769 := by omega
            rw [← eSc_succ]
            refine kRegion rfl ?_
            refine lV (yMove rfl) rfl rfl ?_
            refine lV (yAdd rfl rfl (by omega)) rfl rfl ?_
            refine lV (yAssign rfl) rfl rfl ?_
            refine lNil ?_
            exact kRoundX (i + 1) (by omega) (by omega) rfl (.c rfl (.c rfl .n)) (.c rfl (.c rfl (.c rfl (.c rfl (.c rfl (.c rfl (.c rfl (.c rfl (.c rfl (.c rfl (.c rfl (.c rfl (.c rfl (.c rfl (.c rfl (.c rfl (.c rfl (.c rfl (.c rfl (.c rfl (.c rfl (.c rfl (.c rfl (.c rfl (.c rfl (.c rfl (.c rfl (.c rfl (.c rfl (.c rfl (.c rfl (.c rfl .n)))))))))))))))))))))))))))))))) (.c 1 rfl (.c 1 rfl (.c 1 rfl (.c 1 rfl (.c 1 rfl (.d 0 .r))))))
        · refine kIfF rfl ?_
          refine kExit ?_
          refine kThenX ?_
          refine kThenX ?_
          refine kInX ?_
          refine kThen ?_
          refine kSeq ?_
          obtain rfl : i = (scalesP p (knownP p)).length := by omega
          rw [eSc_all hp]
          refine kRegion rfl ?_
          refine lV (yMove rfl) rfl rfl ?_
          refine lV (yNot rfl) rfl rfl ?_
          refine splitB (t := 90) rfl (fun h90 => ?_) (fun h90 => ?_)
          · refine lNil ?_
            refine kThen ?_
            refine kIfT rfl ?_
            refine kSeq ?_
            refine kRegion rfl ?_
            refine lV (yBuild .n (fun w => B23_ w)) rfl rfl ?_
            refine lV (yBuild .n (fun w => B23_ w)) rfl rfl ?_
            refine lE rfl ?_
            refine eStoreL 2 rfl rfl rfl rfl K23 rfl (rfl) ?_
            refine lE rfl ?_
            refine eStoreL 1 rfl rfl rfl rfl K23 rfl (rfl) ?_
            refine lV (yAssign rfl) rfl rfl ?_
            refine lNil ?_
            refine kThen ?_
            refine kRet ?_
            refine kInR ?_
            refine kThenR ?_
            refine kThenR ?_
            refine kInR ?_
            refine kThenR ?_
            refine fRet rfl (.cA (us := [_, _]) rfl A23 (cOwn 2 rfl rfl) (.cA (us := [_, _]) rfl A23 (cOwn 1 rfl rfl) (.t rfl .n))) (endRet ?_)
            rw [if_neg (fun hh => by rw [hh.1] at h90; cases h90)]
            rfl
          · refine lNil ?_
            refine kThen ?_
            refine kIfF rfl ?_
            refine kSkip ?_
            refine kInN ?_
            refine kThen ?_
            refine kRegion rfl ?_
            refine lV (yMove rfl) rfl rfl ?_
            refine lV (yAdd rfl rfl (by omega)) rfl rfl ?_
            refine lV (yAssign rfl) rfl rfl ?_
            refine lNil ?_
            exact kRoundX 1 (⟨by omega, fun _ => by simpa using h90, fun h => absurd h (by omega)⟩) (by omega) rfl (.c rfl .n) (.c rfl (.c rfl (.c rfl (.c rfl (.c rfl (.c rfl (.c rfl (.c rfl (.c rfl (.c rfl (.c rfl (.c rfl (.c rfl (.c rfl (.c rfl (.c rfl (.c rfl (.c rfl (.c rfl (.c rfl (.c rfl (.c rfl .n)))))))))))))))))))))) (.c 1 rfl (.c 1 rfl (.c 1 rfl (.c 1 rfl (.d 0 .r)))))
      · obtain rfl : k = 1 := by omega
        refine kRegion rfl ?_
        refine lV (yMove rfl) rfl rfl ?_
        refine lV (yMove rfl) rfl rfl ?_
        refine lE rfl ?_
        refine eBuildSlice (.c rfl (.c rfl .n)) (fun w => BS56_2_0_1 w) fun n40 => ?_
        refine lV (yMove rfl) rfl rfl ?_
        refine lV (yIndexS  rfl rfl S56 ((fun w hw => sleRows (f := rowI) (fun _ => rfl) 0 [e, n] rfl (hw.blkAt 0 rfl))) ((Nat.le_of_ble_eq_true rfl))) rfl rfl ?_
        refine lV (yLoad1 rfl O3 (cSl0 ((fun w hw => sleRows (f := rowI) (fun _ => rfl) 0 [e, n] rfl (hw.blkAt 0 rfl))) ((Nat.le_of_ble_eq_true rfl)) rfl)) rfl rfl ?_
        refine same (t := 43) (u := i64 n) rfl (rfl) ?_
        refine lV (yAssign rfl) rfl rfl ?_
        refine lNil ?_
        refine kThen ?_
        refine kSeq ?_
        refine kRegion rfl ?_
        refine lV (yAssign rfl) rfl rfl ?_
        refine lNil ?_
        refine kThen ?_
        refine kSeq ?_
        refine kSeq ?_
        refine kRegion rfl ?_
        refine lV (yAssign rfl) rfl rfl ?_
        refine lNil ?_
        refine kThen ?_
        refine kBlock ?_
        refine kLoopX (ι := Nat) (fun i => i ≤ (scalesP p (knownP p)).length) (fun i => [(15, i64 (i : Nat)), (14, .bool (eSc p true n i).some)]) [(0, _), (1, _), (2, _), (3, _), (6, _), (7, _), (19, _), (20, _), (21, _), (22, _), (23, _), (24, _), (25, _), (26, _), (18, _), (28, _), (27, _), (9, _), (10, _), (29, _), (30, _), (11, _), (12, _), (34, _), (35, _), (38, _), (39, _), (40, _), (41, _), (42, _), (43, _), (13, _)] (fun i => []) (fun i => ([(n11, blk [i64 (findH p false e).lo, i64 (findH p false e).hi, i64 (eSc p true n i).lo, i64 (eSc p true n i).hi] 97)] ++ osL 3 g.1)) [(n40, _), (n7, _), (n6, _), (n3, _)] (fun i => (scalesP p (knownP p)).length - i) 0 (Nat.zero_le _) rfl (.c rfl (.c rfl .n)) (.c rfl (.c rfl (.c rfl (.c rfl (.c rfl (.c rfl (.c rfl (.c rfl (.c rfl (.c rfl (.c rfl (.c rfl (.c rfl (.c rfl (.c rfl (.c rfl (.c rfl (.c rfl (.c rfl (.c rfl (.c rfl (.c rfl (.c rfl (.c rfl (.c rfl (.c rfl (.c rfl (.c rfl (.c rfl (.c rfl (.c rfl (.c rfl .n)))))))))))))))))))))))))))))))) (.c 0 rfl (.c 0 rfl (.c 0 rfl (.c 0 rfl (.c 0 rfl .r))))) ?_
        rintro i hi
        refine kSeq ?_
        refine kSeq ?_
        refine kRegion rfl ?_
        refine lV (yMove rfl) rfl rfl ?_
        refine lV (yMove rfl) rfl rfl ?_
        refine lV (yLen rfl S56) rfl rfl ?_
        refine lV (yLss rfl rfl) rfl rfl ?_
        refine lNil ?_
        refine kThen ?_
        refine split (t := 47) rfl (fun h47 => ?_) (fun h47 => ?_)
        · refine kIfT rfl ?_
          refine kSkip ?_
          refine kThen ?_
          refine kSeq ?_
          refine kBlock ?_
          refine kSeq ?_
          have hmem := getD_mem (l := scalesP p (knownP p)) (i := i) (by omega) 0
          have hsc := mem_sc hp hmem
          have hcb := fun d => corn_bd (scalesP_mem.1 hmem).2 d
          have hc0 := hcb false
          have hc1 := hcb true
          refine kDrawE [(0, none), (1, none), (2, none), (5, none), (6, none), (9, none)] [] [0, 1, 2, 3, 4, 5, 6, 7, 8, 9] 2 hMix (by kernel_rfl) ?_
          refine .run rfl (yLoadA (vs := [_, _, _]) rfl A26 (cOwn 3 rfl rfl)) rfl rfl ?_
          refine .run rfl (yLoadA (vs := [_, _, _]) rfl A26 (cOwn 3 rfl rfl)) rfl rfl ?_
          refine .run rfl (yCall rfl (.c rfl .n) C38 (fun w hw => rknown_any y p w (hm.eff0 hw) (by omega))) rfl rfl ?_
          refine .run rfl (yMove rfl) rfl rfl ?_
          refine .run rfl (yMove rfl) rfl rfl ?_
          refine .run rfl (yIndexS  rfl rfl S56 ((fun w hw => (OS.rowsE (f := rowI) 0 g.2 hw (.d 0 (.d 0 (.d 0 (.d 0 (.d 0 .r)))))).congr hgl fun i _ => rfl)) ((by omega))) rfl rfl ?_
          refine .run rfl (yLoad1 rfl O3 (cSl0 ((fun w hw => (OS.rowsE (f := rowI) 0 g.2 hw (.d 0 (.d 0 (.d 0 (.d 0 (.d 0 .r)))))).congr hgl fun i _ => rfl)) ((by omega)) rfl)) rfl rfl ?_
          refine .run rfl (yMove rfl) rfl rfl ?_
          refine .run rfl (yvIs (c := true) (yEql rfl rfl) (by decide)) rfl rfl ?_
          refine .run rfl (yCall rfl (.c rfl (.c rfl (.c rfl (.c rfl .n)))) C62 (fun w hw => rcorner_any y p true ((scalesP p (knownP p)).getD i 0) (knownP p) w (hm.eff0 hw) hp (by omega) (known_ok p))) rfl rfl ?_
          refine .done ?_
          refine effStep 10 [] (by kernel_rfl) closedSt (hLeft [0, 1, 2, 5, 6, 9] (by kernel_rfl) (.c (fun _ _ hs => hs.ef) (.c (fun _ _ hs => hs.ef) (.c (fun _ _ hs => hs.ef) (.c (fun _ _ hs => hs.ef) (.c (fun _ _ hs => hs.ef) (.c (fun _ _ hs => hs.ef) .n))))))) ?_
          refine .c ?_ .n
          refine effOne rfl (gNone rfl (fAlloc Z23)) ?_
          refine effStep 11 [] (by kernel_rfl) (closedEx fun n16 => closedSt) (hLeft [0, 1, 2, 5, 6, 9] (by kernel_rfl) (.c (fun _ _ ⟨n16, hs⟩ => hs.ef.sub (.c 1 rfl (.c 1 rfl (.c 1 rfl (.c 1 rfl (.c 1 rfl (.d 0 .r))))))) (.c (fun _ _ ⟨n16, hs⟩ => hs.ef.sub (.c 1 rfl (.c 1 rfl (.c 1 rfl (.c 1 rfl (.c 1 rfl (.d 0 .r))))))) (.c (fun _ _ ⟨n16, hs⟩ => hs.ef.sub (.c 1 rfl (.c 1 rfl (.c 1 rfl (.c 1 rfl (.c 1 rfl (.d 0 .r))))))) (.c (fun _ _ ⟨n16, hs⟩ => hs.ef.sub (.c 1 rfl (.c 1 rfl (.c 1 rfl (.c 1 rfl (.c 1 rfl (.d 0 .r))))))) (.c (fun _ _ ⟨n16, hs⟩ => hs.ef.sub (.c 1 rfl (.c 1 rfl (.c 1 rfl (.c 1 rfl (.c 1 rfl (.d 0 .r))))))) (.c (fun _ _ ⟨n16, hs⟩ => hs.ef.sub (.c 1 rfl (.c 1 rfl (.c 1 rfl (.c 1 rfl (.c 1 rfl (.d 0 .r))))))) .n))))))) ?_
          refine .c ?_ .n
          refine effOne rfl (opEx fun n16 => (gNone rfl (fStoreL 0 rfl rfl rfl rfl K23 rfl (rfl)))) ?_
          refine effDone (closedEx fun n16 => closedSt) (hLeft [] (by kernel_rfl) .n) (by kernel_rfl) ?_
          refine trEx fun n16 => ?_
          refine kThen ?_
          refine kSeq ?_
          refine kRegion rfl ?_
          refine lV (yAssign rfl) rfl rfl ?_
          refine lNil ?_
          refine kThen ?_
          refine kBlock ?_
          refine kLoopX (ι := Nat) (fun x => x ≤ 32769) (fun x => [(17, i64 (x : Nat)), (14, .bool (eIn (cornP p true ((scalesP p (knownP p)).getD i 0) (knownP p)) n ((scalesP p (knownP p)).getD i 0) (eSc p true n i) x).some)]) [(0, _), (1, _), (2, _), (3, _), (6, _), (7, _), (19, _), (20, _), (21, _), (22, _), (23, _), (24, _), (25, _), (26, _), (18, _), (28, _), (27, _), (9, _), (10, _), (29, _), (30, _), (11, _), (12, _), (34, _), (35, _), (38, _), (39, _), (40, _), (41, _), (42, _), (43, _), (13, _), (15, _), (44, _), (45, _), (46, _), (47, _), (50, _), (51, _), (52, _), (53, _), (54, _), (55, _), (56, _), (57, _), (58, _), (59, _), (16, _)] (fun x => []) (fun x => ([(n11, blk [i64 (findH p false e).lo, i64 (findH p false e).hi, i64 (eIn (cornP p true ((scalesP p (knownP p)).getD i 0) (knownP p)) n ((scalesP p (knownP p)).getD i 0) (eSc p true n i) x).lo, i64 (eIn (cornP p true ((scalesP p (knownP p)).getD i 0) (knownP p)) n ((scalesP p (knownP p)).getD i 0) (eSc p true n i) x).hi] 97)] ++ osL 3 g.1)) [(n16, _), (n40, _), (n7, _), (n6, _), (n3, _)] (fun x => 32769 - x) 0 (Nat.zero_le _) rfl (.c rfl (.c rfl .n)) (.c rfl (.c rfl (.c rfl (.c rfl (.c rfl (.c rfl (.c rfl (.c rfl (.c rfl (.c rfl (.c rfl (.c rfl (.c rfl (.c rfl (.c rfl (.c rfl (.c rfl (.c rfl (.c rfl (.c rfl (.c rfl (.c rfl (.c rfl (.c rfl (.c rfl (.c rfl (.c rfl (.c rfl (.c rfl (.c rfl (.c rfl (.c rfl (.c rfl (.c rfl (.c rfl (.c rfl (.c rfl (.c rfl (.c rfl (.c rfl (.c rfl (.c rfl (.c rfl (.c rfl (.c rfl (.c rfl (.c rfl (.c rfl .n)))))))))))))))))))))))))))))))))))))))))))))))) (.c 0 rfl (.c 0 rfl (.c 0 rfl (.c 0 rfl (.c 0 rfl (.c 0 rfl .r)))))) ?_
          rintro x hx
          refine kSeq ?_
          refine kSeq ?_
          refine kRegion rfl ?_
          refine lV (yMove rfl) rfl rfl ?_
          refine lV (yLeq rfl rfl) rfl rfl ?_
          refine lNil ?_
          refine kThen ?_
          refine split (t := 61) rfl (fun h61 => ?_) (fun h61 => ?_)
          · refine kIfT rfl ?_
            refine kSkip ?_
            refine kThen ?_
            refine kSeq ?_
            refine kBlock ?_
            refine kSeq ?_
            have hsx := mul_bd (a := (scalesP p (knownP p)).getD i 0) (b := (x : Int)) (by omega) (by omega)
            refine kDrawE [(3, none), (4, none), (10, none), (12, none), (13, none)] [] [0, 1, 2, 3, 4, 5, 6, 7, 8, 9, 10, 11, 12, 13] 0 hMix (by kernel_rfl) ?_
            refine .run rfl (yMove rfl) rfl rfl ?_
            refine .run rfl (yMove rfl) rfl rfl ?_
            refine .run rfl (yMove rfl) rfl rfl ?_
            refine .run rfl (yIndexS  rfl rfl S56 ((fun w hw => (OS.rowsE (f := rowI) 0 g.2 hw (.d 0 (.d 0 (.d 0 (.d 0 (.d 0 (.d 0 .r))))))).congr hgl fun i _ => rfl)) ((by omega))) rfl rfl ?_
            refine .run rfl (yLoad1 rfl O3 (cSl0 ((fun w hw => (OS.rowsE (f := rowI) 0 g.2 hw (.d 0 (.d 0 (.d 0 (.d 0 (.d 0 (.d 0 .r))))))).congr hgl fun i _ => rfl)) ((by omega)) rfl)) rfl rfl ?_
            refine .run rfl (yMove rfl) rfl rfl ?_
            refine .run rfl (yMul rfl rfl (by omega)) rfl rfl ?_
            refine .run rfl (yQuo rfl rfl (by omega) (by omega) (by omega)) rfl rfl ?_
            refine .run rfl (ySub rfl rfl (by omega)) rfl rfl ?_
            refine .run rfl (yFieldAddr rfl F23_0) rfl rfl ?_
            refine .run rfl (yLoad1 rfl O3 (cOwn 0 rfl rfl)) rfl rfl ?_
            refine .run rfl (yFieldAddr rfl F23_1) rfl rfl ?_
            refine .run rfl (yLoad1 rfl O3 (cOwn 0 rfl rfl)) rfl rfl ?_
            refine .run rfl (yCall rfl (.c rfl (.c rfl (.c rfl .n))) C77 (fun w hw => rin_any _ _ _ w)) rfl rfl ?_
            refine .done ?_
            refine effDone closedSt (hLeft [3, 4, 10, 12, 13] (by kernel_rfl) (.c (fun _ _ hs => hs.ef) (.c (fun _ _ hs => hs.ef) (.c (fun _ _ hs => hs.ef) (.c (fun _ _ hs => hs.ef) (.c (fun _ _ hs => hs.ef) .n)))))) (by kernel_rfl) ?_
            refine kThen ?_
            refine splitB (t := 77) rfl (fun h77 => ?_) (fun h77 => ?_)
            · refine kIfT rfl ?_
              refine kSeq ?_
              refine kRegion rfl ?_
              refine lV (yMove rfl) rfl rfl ?_
              refine lV (yMove rfl) rfl rfl ?_
              refine lV (yIndexAr rfl rfl R97 (by omega) (by omega)) rfl rfl ?_
              refine lV (yLoadA (vs := [_, _]) rfl A23 (cOwn 5 rfl rfl)) rfl rfl ?_
              refine lV (yMove rfl) rfl rfl ?_
              refine lV (yMove rfl) rfl rfl ?_
              refine lV (yBuild (.c rfl (.c rfl .n)) (fun w => B23_0_1 w)) rfl rfl ?_
              refine lV (yMove rfl) rfl rfl ?_
              refine lV (yNot rfl) rfl rfl ?_
              refine lV (yCall rfl (.c rfl (.c rfl (.c rfl .n))) C61 (fun w hw => rhull_any ((eIn (cornP p true ((scalesP p (knownP p)).getD i 0) (knownP p)) n ((scalesP p (knownP p)).getD i 0) (eSc p true n i) x).lo, (eIn (cornP p true ((scalesP p (knownP p)).getD i 0) (knownP p)) n ((scalesP p (knownP p)).getD i 0) (eSc p true n i) x).hi) ((x : Int), (x : Int)) (!(eIn (cornP p true ((scalesP p (knownP p)).getD i 0) (knownP p)) n ((scalesP p (knownP p)).getD i 0) (eSc p true n i) x).some) w)) rfl rfl ?_
              refine same (t := 87) (u := .agg (rowE ((keepE (eIn (cornP p true ((scalesP p (knownP p)).getD i 0) (knownP p)) n ((scalesP p (knownP p)).getD i 0) (eSc p true n i) x) (x : Nat)).lo, (keepE (eIn (cornP p true ((scalesP p (knownP p)).getD i 0) (knownP p)) n ((scalesP p (knownP p)).getD i 0) (eSc p true n i) x) (x : Nat)).hi)).toArray) rfl (by rw [(keep_hull _ _).1]) ?_
              refine lV (yIndexAr rfl rfl R97 (by omega) (by omega)) rfl rfl ?_
              refine lE rfl ?_
              refine eStoreL 5 rfl rfl rfl rfl K23 rfl (rfl) ?_
              refine lNil ?_
              refine kThen ?_
              refine kRegion rfl ?_
              refine lV (yAssign rfl) rfl rfl ?_
              refine lNil ?_
              refine kInN ?_
              refine kThen ?_
              rw [show keepE (eIn (cornP p true ((scalesP p (knownP p)).getD i 0) (knownP p)) n ((scalesP p (knownP p)).getD i 0) (eSc p true n i) x) (x : Nat) = (eIn (cornP p true ((scalesP p (knownP p)).getD i 0) (knownP p)) n ((scalesP p (knownP p)).getD i 0) (eSc p true n i) (x + 1)) from by rw [eIn_succ, if_pos (show inF _ _ _ _ = true from h77)]]
              refine kRegion rfl ?_
              refine lV (yMove rfl) rfl rfl ?_
              refine lV (yAdd rfl rfl (by omega)) rfl rfl ?_
              refine lV (yAssign rfl) rfl rfl ?_
              refine lNil ?_
              exact kRoundX (x + 1) (by omega) (by omega) rfl (.c rfl (.c (by first | rfl | (show some (Value.bool _) = _; rw [eIn_succ, if_pos (show inF _ _ _ _ = true from h77), (keep_hull _ _).2])) .n)) (.c rfl (.c rfl (.c rfl (.c rfl (.c rfl (.c rfl (.c rfl (.c rfl (.c rfl (.c rfl (.c rfl (.c rfl (.c rfl (.c rfl (.c rfl (.c rfl (.c rfl (.c rfl (.c rfl (.c rfl (.c rfl (.c rfl (.c rfl (.c rfl (.c rfl (.c rfl (.c rfl (.c rfl (.c rfl (.c rfl (.c rfl (.c rfl (.c rfl (.c rfl (.c rfl (.c rfl (.c rfl (.c rfl (.c rfl (.c rfl (.c rfl (.c rfl (.c rfl (.c rfl (.c rfl (.c rfl (.c rfl (.c rfl .n)))))))))))))))))))))))))))))))))))))))))))))))) (.c 0 rfl (.c 0 rfl (.c 0 rfl (.c 0 rfl (.c 0 rfl (.c 0 rfl .r))))))
            · refine kIfF rfl ?_
              refine kSkip ?_
              refine kInN ?_
              refine kThen ?_
              rw [show (eIn (cornP p true ((scalesP p (knownP p)).getD i 0) (knownP p)) n ((scalesP p (knownP p)).getD i 0) (eSc p true n i) x) = (eIn (cornP p true ((scalesP p (knownP p)).getD i 0) (knownP p)) n ((scalesP p (knownP p)).getD i 0) (eSc p true n i) (x + 1)) from by rw [eIn_succ, if_neg (show ¬ inF _ _ _ _ = true from fun hh => Bool.false_ne_true (h77.symm.trans hh))]]
              refine kRegion rfl ?_
              refine lV (yMove rfl) rfl rfl ?_
              refine lV (yAdd rfl rfl (by omega)) rfl rfl ?_
              refine lV (yAssign rfl) rfl rfl ?_
              refine lNil ?_
              exact kRoundX (x + 1) (by omega) (by omega) rfl (.c rfl (.c (by first | rfl | (show some (Value.bool _) = _; rw [eIn_succ, if_pos (show inF _ _ _ _ = true from h77), (keep_hull _ _).2])) .n)) (.c rfl (.c rfl (.c rfl (.c rfl (.c rfl (.c rfl (.c rfl (.c rfl (.c rfl (.c rfl (.c rfl (.c rfl (.c rfl (.c rfl (.c rfl (.c rfl (.c rfl (.c rfl (.c rfl (.c rfl (.c rfl (.c rfl (.c rfl (.c rfl (.c rfl (.c rfl (.c rfl (.c rfl (.c rfl (.c rfl (.c rfl (.c rfl (.c rfl (.c rfl (.c rfl (.c rfl (.c rfl (.c rfl (.c rfl (.c rfl (.c rfl (.c rfl (.c rfl (.c rfl (.c rfl (.c rfl (.c rfl (.c rfl .n)))))))))))))))))))))))))))))))))))))))))))))))) (.c 0 rfl (.c 0 rfl (.c 0 rfl (.c 0 rfl (.c 0 rfl (.c 0 rfl .r))))))
          · refine kIfF rfl ?_
            refine kExit ?_
            refine kThenX ?_
            refine kThenX ?_
            refine kInX ?_
            refine kInN ?_
            refine kThen ?_
            obtain rfl : x = 32769 := by omega
            rw [← eSc_succ]
            refine kRegion rfl ?_
            refine lV (yMove rfl) rfl rfl ?_
            refine lV (yAdd rfl rfl (by omega)) rfl rfl ?_
            refine lV (yAssign rfl) rfl rfl ?_
            refine lNil ?_
            exact kRoundX (i + 1) (by omega) (by omega) rfl (.c rfl (.c rfl .n)) (.c rfl (.c rfl (.c rfl (.c rfl (.c rfl (.c rfl (.c rfl (.c rfl (.c rfl (.c rfl (.c rfl (.c rfl (.c rfl (.c rfl (.c rfl (.c rfl (.c rfl (.c rfl (.c rfl (.c rfl (.c rfl (.c rfl (.c rfl (.c rfl (.c rfl (.c rfl (.c rfl (.c rfl (.c rfl (.c rfl (.c rfl (.c rfl .n)))))))))))))))))))))))))))))))) (.c 1 rfl (.c 1 rfl (.c 1 rfl (.c 1 rfl (.c 1 rfl (.d 0 .r))))))
        · refine kIfF rfl ?_
          refine kExit ?_
          refine kThenX ?_
          refine kThenX ?_
          refine kInX ?_
          refine kThen ?_
          refine kSeq ?_
          obtain rfl : i = (scalesP p (knownP p)).length := by omega
          rw [eSc_all hp]
          refine kRegion rfl ?_
          refine lV (yMove rfl) rfl rfl ?_
          refine lV (yNot rfl) rfl rfl ?_
          refine splitB (t := 90) rfl (fun h90 => ?_) (fun h90 => ?_)
          · refine lNil ?_
            refine kThen ?_
            refine kIfT rfl ?_
            refine kSeq ?_
            refine kRegion rfl ?_
            refine lV (yBuild .n (fun w => B23_ w)) rfl rfl ?_
            refine lV (yBuild .n (fun w => B23_ w)) rfl rfl ?_
            refine lE rfl ?_
            refine eStoreL 2 rfl rfl rfl rfl K23 rfl (rfl) ?_
            refine lE rfl ?_
            refine eStoreL 1 rfl rfl rfl rfl K23 rfl (rfl) ?_
            refine lV (yAssign rfl) rfl rfl ?_
            refine lNil ?_
            refine kThen ?_
            refine kRet ?_
            refine kInR ?_
            refine kThenR ?_
            refine kThenR ?_
            refine kInR ?_
            refine kThenR ?_
            refine fRet rfl (.cA (us := [_, _]) rfl A23 (cOwn 2 rfl rfl) (.cA (us := [_, _]) rfl A23 (cOwn 1 rfl rfl) (.t rfl .n))) (endRet ?_)
            rw [if_neg (fun hh => by rw [hh.2] at h90; cases h90)]
            rfl
          · refine lNil ?_
            refine kThen ?_
            refine kIfF rfl ?_
            refine kSkip ?_
            refine kInN ?_
            refine kThen ?_
            refine kRegion rfl ?_
            refine lV (yMove rfl) rfl rfl ?_
            refine lV (yAdd rfl rfl (by omega)) rfl rfl ?_
            refine lV (yAssign rfl) rfl rfl ?_
            refine lNil ?_
            exact kRoundX 2 (⟨by omega, fun _ => hf1 (by omega), fun _ => by simpa using h90⟩) (by omega) rfl (.c rfl .n) (.c rfl (.c rfl (.c rfl (.c rfl (.c rfl (.c rfl (.c rfl (.c rfl (.c rfl (.c rfl (.c rfl (.c rfl (.c rfl (.c rfl (.c rfl (.c rfl (.c rfl (.c rfl (.c rfl (.c rfl (.c rfl (.c rfl .n)))))))))))))))))))))) (.c 1 rfl (.c 1 rfl (.c 1 rfl (.c 1 rfl (.d 0 .r)))))
    · refine kIfF rfl ?_
      refine kExit ?_
      refine kThenX ?_
      refine kThenX ?_
      refine kInX ?_
      refine kThen ?_
      refine kSeq ?_
      obtain rfl : k = 2 := by omega
      refine kDrawE [(1, none), (3, some [0, 2, 3])] [] [0, 1, 2, 3, 6] 2 hMix (by kernel_rfl) ?_
      refine .run rfl (yIndexAr rfl rfl R97 (by omega) (by omega)) rfl rfl ?_
      refine .run rfl (yLoadA (vs := [_, _]) rfl A23 (cOwn 3 rfl rfl)) rfl rfl ?_
      refine .run rfl (yIndexAr rfl rfl R97 (by omega) (by omega)) rfl rfl ?_
      refine .run rfl (yLoadA (vs := [_, _]) rfl A23 (cOwn 2 rfl rfl)) rfl rfl ?_
      refine .run rfl (yAssign rfl) rfl rfl ?_
      refine .done ?_
      refine effStep 4 [] (by kernel_rfl) closedSt (hLeft [1, 3] (by kernel_rfl) (.c (fun _ _ hs => hs.ef) (.c (fun _ _ hs => hs.ef.sub (.c 0 rfl (.c 1 rfl (.c 1 rfl .n)))) .n))) ?_
      refine .c ?_ .n
      refine effOne rfl (gNone rfl (fStoreL 1 rfl rfl rfl rfl K23 rfl (rfl))) ?_
      refine effStep 5 [] (by kernel_rfl) closedSt (hLeft [3] (by kernel_rfl) (.c (fun _ _ hs => hs.ef.sub (.c 0 rfl (.c 1 rfl (.c 1 rfl .n)))) .n)) ?_
      refine .c ?_ .n
      refine effOne rfl (gNone rfl (fStoreL 0 rfl rfl rfl rfl K23 rfl (rfl))) ?_
      refine effDone closedSt (hLeft [] (by kernel_rfl) .n) (by kernel_rfl) ?_
      refine kThen ?_
      refine kRet ?_
      refine fRet rfl (.cA (us := [_, _]) rfl A23 (cOwn 1 rfl rfl) (.cA (us := [_, _]) rfl A23 (cOwn 0 rfl rfl) (.t rfl .n))) (endRet ?_)
      rw [if_pos ⟨hf1 (by omega), hf2 (by omega)⟩]
      rfl
end Go.Proofs.Ytlcdohhhhlhpmaa
