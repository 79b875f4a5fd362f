/-
  Walks: where the document says the corner and a star are.
-/
import Derived.Test.YtlcdohhhhlhpmaaJd
namespace Go.Proofs.Ytlcdohhhhlhpmaa
open ZW

def zf (p : Plt) (d : Bool) (i : Nat) : Int × Int := cornP p d ((scalesP p (knownP p)).getD i 0) (knownP p)
theorem zf_eq {p : Plt} (d : Bool) (hs : scalesP p (knownP p) ≠ []) : hullF (zf p d) (scalesP p (knownP p)).length = spanE (hullE ((scalesP p (knownP p)).flatMap (zeroG p d))) :=
  hullF_eq (f := fun s => (cornP p d s (knownP p)).1) (g := fun s => (cornP p d s (knownP p)).2) hs fun _ h => (mem_at h d).1
theorem scales_len {p : Plt} (hp : PltOk p) : (scalesP p (knownP p)).length ≤ 1000 := by
  have hc := hp.c
  unfold spanOk at hc
  have hn : (nSc p : Int) = p.sc.2 - p.sc.1 + 1 := by unfold nSc; omega
  have hlen : (scalesP p (knownP p)).length ≤ nSc p := scT_len p (knownP p) (nSc p)
  omega
set_option maxRecDepth 100000 in
set_option maxHeartbeats 4000000 in
theorem rzero_any (y : Option Addr × Nat) (p : Plt) (w : World) (hm : InP w y p) (hL : p.st.length ≤ 30) : Calls Try.prog 18 [.agg (pltC y p).toArray].toArray w (Ret w (outC2 (zeroE p))) := by
  by_cases h : toldE p true = 0
  · obtain ⟨ht, hk⟩ := toldE_ok h
    obtain ⟨hp, _, hs⟩ := truthE_ok ht
    have e : zeroE p = (hullF (zf p false) (scalesP p (knownP p)).length, hullF (zf p true) (scalesP p (knownP p)).length, 0) := by
      unfold zeroE
      rw [if_neg (not_not_intro h), zf_eq false hs, zf_eq true hs]
    have hsl := scales_len hp
    rw [e]
    refine fEnter Try.func18 rfl Try.ntmps18 rfl ?_
    refine kSeq ?_
    refine kRegion rfl ?_
    refine lE rfl ?_
    refine eBoxA rfl fun n1 => ?_
    refine lE rfl ?_
    refine eAlloc Z23 fun n2 => ?_
    refine lE rfl ?_
    refine eAlloc Z23 fun n3 => ?_
    refine lV (yAssign rfl) rfl rfl ?_
    refine lNil ?_
    refine kThen ?_
    refine kSeq ?_
    refine kRegion rfl ?_
    refine lV (yLoadA (vs := [_, _, _]) rfl A26 (cOwn 2 rfl rfl)) rfl rfl ?_
    refine lE rfl ?_
    refine eCallO rfl (.c rfl (.c rfl .n)) C60 (fun w hw => rdoubt_ok y p w (hm.eff0 hw) hp hs hk) fun g hg => ?_
    rw [List.length_map]
    refine lV (yMove rfl) rfl rfl ?_
    refine lV (yExtract rfl rfl) rfl rfl ?_
    refine lV (yExtract rfl rfl) rfl rfl ?_
    refine lV (yAssign rfl) rfl rfl ?_
    refine lV (yAssign rfl) rfl rfl ?_
    refine lNil ?_
    refine kThen ?_
    refine kSeq ?_
    refine kSeq ?_
    refine kRegion rfl ?_
    refine lV (yMove rfl) rfl rfl ?_
    refine lV (yNeq rfl rfl) rfl rfl ?_
    refine knownN (t := 16) rfl (by simp) ?_
    refine lNil ?_
    refine kThen ?_
    refine kIfF rfl ?_
    refine kSkip ?_
    refine kThen ?_
    refine kSeq ?_
    refine kRegion rfl ?_
    refine lE rfl ?_
    refine eAlloc Z23 fun n7 => ?_
    refine lE rfl ?_
    refine eAlloc Z23 fun n8 => ?_
    refine lNil ?_
    refine kThen ?_
    refine kSeq ?_
    refine kSeq ?_
    refine kRegion rfl ?_
    refine lV (yAssign rfl) rfl rfl ?_
    refine lNil ?_
    refine kThen ?_
    refine kBlock ?_
    refine kLoopX (ι := Nat) (fun i => i ≤ (scalesP p (knownP p)).length) (fun i => [(9, i64 (i : Nat))]) [(0, _), (1, _), (2, _), (3, _), (4, _), (11, _), (12, _), (10, _), (13, _), (14, _), (5, _), (6, _), (15, _), (16, _), (7, _), (8, _)] (fun i => []) (fun i => ([(n7, blk (rowE (hullF (zf p false) i)) 23), (n8, blk (rowE (hullF (zf p true) i)) 23)] ++ osL 3 g)) [(n3, _), (n2, _), (n1, _)] (fun i => (scalesP p (knownP p)).length - i) 0 (Nat.zero_le _) rfl (.c rfl .n) (.c rfl (.c rfl (.c rfl (.c rfl (.c rfl (.c rfl (.c rfl (.c rfl (.c rfl (.c rfl (.c rfl (.c rfl (.c rfl (.c rfl (.c rfl (.c rfl .n)))))))))))))))) (.c 2 rfl (.c 2 rfl (.c 2 rfl (.c 1 rfl (.c 0 rfl .r))))) ?_
    rintro i hi
    refine kSeq ?_
    refine kSeq ?_
    refine kRegion rfl ?_
    refine lV (yMove rfl) rfl rfl ?_
    refine lV (yMove rfl) rfl rfl ?_
    refine lV (yLen rfl S56) rfl rfl ?_
    refine lV (yLss rfl rfl) rfl rfl ?_
    refine lNil ?_
    refine kThen ?_
    refine split (t := 23) rfl (fun h23 => ?_) (fun h23 => ?_)
    · refine kIfT rfl ?_
      refine kSkip ?_
      refine kThen ?_
      refine kSeq ?_
      refine kBlock ?_
      refine kSeq ?_
      have hmem := getD_mem (l := scalesP p (knownP p)) (i := i) (by omega) 0
      have hsc := mem_sc hp hmem
      refine kDrawE [(0, none), (1, none), (2, none), (3, none), (6, none), (7, none), (8, none), (11, none)] [] [0, 1, 2, 3, 4, 5, 6, 7, 8, 9, 10, 11] 1 hMix (by kernel_rfl) ?_
      refine .run rfl (yLoadA (vs := [_, _]) rfl A23 (cOwn 3 rfl rfl)) rfl rfl ?_
      refine .run rfl (yLoadA (vs := [_, _, _]) rfl A26 (cOwn 2 rfl rfl)) rfl rfl ?_
      refine .run rfl (yLoadA (vs := [_, _, _]) rfl A26 (cOwn 2 rfl rfl)) rfl rfl ?_
      refine .run rfl (yCall rfl (.c rfl .n) C38 (fun w hw => rknown_any y p w (hm.eff0 hw) (by omega))) rfl rfl ?_
      refine .run rfl (yMove rfl) rfl rfl ?_
      refine .run rfl (yMove rfl) rfl rfl ?_
      refine .run rfl (yIndexS  rfl rfl S56 ((fun w hw => OS.rowsE (f := rowI) 0 hg hw (.d 0 (.d 0 (.d 0 (.d 0 (.d 0 .r))))))) ((by omega))) rfl rfl ?_
      refine .run rfl (yLoad1 rfl O3 (cSl0 ((fun w hw => OS.rowsE (f := rowI) 0 hg hw (.d 0 (.d 0 (.d 0 (.d 0 (.d 0 .r))))))) ((by omega)) rfl)) rfl rfl ?_
      refine .run rfl (yCall rfl (.c rfl (.c rfl (.c rfl (.c rfl .n)))) C62 (fun w hw => rcorner_any y p false ((scalesP p (knownP p)).getD i 0) (knownP p) w (hm.eff0 hw) hp (by omega) (known_ok p))) rfl rfl ?_
      refine .run rfl (yMove rfl) rfl rfl ?_
      refine .run rfl (yEql rfl rfl) rfl rfl ?_
      refine .run rfl (yvSame (u := .agg (rowE (hullF (zf p false) (i + 1))).toArray) (yCall rfl (.c rfl (.c rfl (.c rfl .n))) C61 (fun w hw => rhull_any (hullF (zf p false) i) (zf p false i) (decide ((i : Int) = 0)) w)) (by rw [hullF_succ])) rfl rfl ?_
      refine .done ?_
      refine effStep 12 [] (by kernel_rfl) closedSt (hLeft [0, 1, 2, 3, 6, 7, 8, 11] (by kernel_rfl) (.c (fun _ _ hs => hs.ef) (.c (fun _ _ hs => hs.ef) (.c (fun _ _ hs => hs.ef) (.c (fun _ _ hs => hs.ef) (.c (fun _ _ hs => hs.ef) (.c (fun _ _ hs => hs.ef) (.c (fun _ _ hs => hs.ef) (.c (fun _ _ hs => hs.ef) .n))))))))) ?_
      refine .c ?_ .n
      refine effOne rfl (gNone rfl (fStoreL 3 rfl rfl rfl rfl K23 rfl (rfl))) ?_
      refine effDone closedSt (hLeft [] (by kernel_rfl) .n) (by kernel_rfl) ?_
      refine kThen ?_
      refine kDrawE [(0, none), (1, none), (2, none), (3, none), (6, none), (7, none), (8, none), (11, none)] [] [0, 1, 2, 3, 4, 5, 6, 7, 8, 9, 10, 11] 1 hMix (by kernel_rfl) ?_
      refine .run rfl (yLoadA (vs := [_, _]) rfl A23 (cOwn 4 rfl rfl)) rfl rfl ?_
      refine .run rfl (yLoadA (vs := [_, _, _]) rfl A26 (cOwn 2 rfl rfl)) rfl rfl ?_
      refine .run rfl (yLoadA (vs := [_, _, _]) rfl A26 (cOwn 2 rfl rfl)) rfl rfl ?_
      refine .run rfl (yCall rfl (.c rfl .n) C38 (fun w hw => rknown_any y p w (hm.eff0 hw) (by omega))) rfl rfl ?_
      refine .run rfl (yMove rfl) rfl rfl ?_
      refine .run rfl (yMove rfl) rfl rfl ?_
      refine .run rfl (yIndexS  rfl rfl S56 ((fun w hw => OS.rowsE (f := rowI) 0 hg hw (.d 0 (.d 0 (.d 0 (.d 0 (.d 0 .r))))))) ((by omega))) rfl rfl ?_
      refine .run rfl (yLoad1 rfl O3 (cSl0 ((fun w hw => OS.rowsE (f := rowI) 0 hg hw (.d 0 (.d 0 (.d 0 (.d 0 (.d 0 .r))))))) ((by omega)) rfl)) rfl rfl ?_
      refine .run rfl (yCall rfl (.c rfl (.c rfl (.c rfl (.c rfl .n)))) C62 (fun w hw => rcorner_any y p true ((scalesP p (knownP p)).getD i 0) (knownP p) w (hm.eff0 hw) hp (by omega) (known_ok p))) rfl rfl ?_
      refine .run rfl (yMove rfl) rfl rfl ?_
      refine .run rfl (yEql rfl rfl) rfl rfl ?_
      refine .run rfl (yvSame (u := .agg (rowE (hullF (zf p true) (i + 1))).toArray) (yCall rfl (.c rfl (.c rfl (.c rfl .n))) C61 (fun w hw => rhull_any (hullF (zf p true) i) (zf p true i) (decide ((i : Int) = 0)) w)) (by rw [hullF_succ])) rfl rfl ?_
      refine .done ?_
      refine effStep 12 [] (by kernel_rfl) closedSt (hLeft [0, 1, 2, 3, 6, 7, 8, 11] (by kernel_rfl) (.c (fun _ _ hs => hs.ef) (.c (fun _ _ hs => hs.ef) (.c (fun _ _ hs => hs.ef) (.c (fun _ _ hs => hs.ef) (.c (fun _ _ hs => hs.ef) (.c (fun _ _ hs => hs.ef) (.c (fun _ _ hs => hs.ef) (.c (fun _ _ hs => hs.ef) .n))))))))) ?_
      refine .c ?_ .n
      refine effOne rfl (gNone rfl (fStoreL 4 rfl rfl rfl rfl K23 rfl (rfl))) ?_
      refine effDone closedSt (hLeft [] (by kernel_rfl) .n) (by kernel_rfl) ?_
      refine kInN ?_
      refine kThen ?_
      refine kRegion rfl ?_
      refine lV (yMove rfl) rfl rfl ?_
      refine lV (yAdd rfl rfl (by omega)) rfl rfl ?_
      refine lV (yAssign rfl) rfl rfl ?_
      refine lNil ?_
      exact kRoundX (i + 1) (by omega) (by omega) rfl (.c rfl .n) (.c rfl (.c rfl (.c rfl (.c rfl (.c rfl (.c rfl (.c rfl (.c rfl (.c rfl (.c rfl (.c rfl (.c rfl (.c rfl (.c rfl (.c rfl (.c rfl .n)))))))))))))))) (.c 0 rfl (.c 0 rfl (.c 0 rfl (.c 0 rfl (.c 0 rfl .r)))))
    · refine kIfF rfl ?_
      refine kExit ?_
      refine kThenX ?_
      refine kThenX ?_
      refine kInX ?_
      refine kThen ?_
      refine kSeq ?_
      refine kDrawE [(0, none), (1, some [0, 2, 3, 4])] [] [0, 1, 4] 2 hMix (by kernel_rfl) ?_
      refine .run rfl (yLoadA (vs := [_, _]) rfl A23 (cOwn 3 rfl rfl)) rfl rfl ?_
      refine .run rfl (yLoadA (vs := [_, _]) rfl A23 (cOwn 3 rfl rfl)) rfl rfl ?_
      refine .run rfl (yAssign rfl) rfl rfl ?_
      refine .done ?_
      refine effStep 2 [] (by kernel_rfl) closedSt (hLeft [0, 1] (by kernel_rfl) (.c (fun _ _ hs => hs.ef) (.c (fun _ _ hs => hs.ef.sub (.c 0 rfl (.c 1 rfl (.c 1 rfl (.c 1 rfl .n))))) .n))) ?_
      refine .c ?_ .n
      refine effOne rfl (gNone rfl (fStoreL 1 rfl rfl rfl rfl K23 rfl (rfl))) ?_
      refine effStep 3 [] (by kernel_rfl) closedSt (hLeft [1] (by kernel_rfl) (.c (fun _ _ hs => hs.ef.sub (.c 0 rfl (.c 1 rfl (.c 1 rfl (.c 1 rfl .n))))) .n)) ?_
      refine .c ?_ .n
      refine effOne rfl (gNone rfl (fStoreL 0 rfl rfl rfl rfl K23 rfl (rfl))) ?_
      refine effDone closedSt (hLeft [] (by kernel_rfl) .n) (by kernel_rfl) ?_
      refine kThen ?_
      refine kRet ?_
      refine fRet rfl (.cA (us := [_, _]) rfl A23 (cOwn 1 rfl rfl) (.cA (us := [_, _]) rfl A23 (cOwn 0 rfl rfl) (.t rfl .n))) (endRet ?_)
      obtain rfl : i = (scalesP p (knownP p)).length := by omega
      rfl
  · have e : zeroE p = ((0, 0), (0, 0), toldE p true) := by unfold zeroE; rw [if_pos h]
    rw [e]
    refine fEnter Try.func18 rfl Try.ntmps18 rfl ?_
    refine kSeq ?_
    refine kRegion rfl ?_
    refine lE rfl ?_
    refine eBoxA rfl fun n1 => ?_
    refine lE rfl ?_
    refine eAlloc Z23 fun n2 => ?_
    refine lE rfl ?_
    refine eAlloc Z23 fun n3 => ?_
    refine lV (yAssign rfl) rfl rfl ?_
    refine lNil ?_
    refine kThen ?_
    refine kSeq ?_
    refine kRegion rfl ?_
    refine lV (yLoadA (vs := [_, _, _]) rfl A26 (cOwn 2 rfl rfl)) rfl rfl ?_
    refine lV (yCall rfl (.c rfl (.c rfl .n)) C60 (fun w hw => rdoubt_bad y p true w (hm.eff0 hw) hL h)) rfl rfl ?_
    refine lV (yMove rfl) rfl rfl ?_
    refine lV (yExtract rfl rfl) rfl rfl ?_
    refine lV (yExtract rfl rfl) rfl rfl ?_
    refine lV (yAssign rfl) rfl rfl ?_
    refine lV (yAssign rfl) rfl rfl ?_
    refine lNil ?_
    refine kThen ?_
    refine kSeq ?_
    refine kSeq ?_
    refine kRegion rfl ?_
    refine lV (yMove rfl) rfl rfl ?_
    refine lV (yNeq rfl rfl) rfl rfl ?_
    refine known (t := 16) rfl (h) ?_
    refine lNil ?_
    refine kThen ?_
    refine kIfT rfl ?_
    refine kSeq ?_
    refine kRegion rfl ?_
    refine lV (yBuild .n (fun w => B23_ w)) rfl rfl ?_
    refine lV (yBuild .n (fun w => B23_ w)) rfl rfl ?_
    refine lV (yMove rfl) rfl rfl ?_
    refine lE rfl ?_
    refine eStoreL 1 rfl rfl rfl rfl K23 rfl (rfl) ?_
    refine lE rfl ?_
    refine eStoreL 0 rfl rfl rfl rfl K23 rfl (rfl) ?_
    refine lV (yAssign rfl) rfl rfl ?_
    refine lNil ?_
    refine kThen ?_
    refine kRet ?_
    refine kThenR ?_
    refine fRet rfl (.cA (us := [_, _]) rfl A23 (cOwn 1 rfl rfl) (.cA (us := [_, _]) rfl A23 (cOwn 0 rfl rfl) (.t rfl .n))) (endRet ?_)
    rfl
end Go.Proofs.Ytlcdohhhhlhpmaa
