/-
  Walks: where the document says a star is.
-/
import Derived.Test.YtlcdohhhhlhpmaaJe
import Derived.Test.YtlcdohhhhlhpmaaEb
namespace Go.Proofs.Ytlcdohhhhlhpmaa
open ZW

set_option maxRecDepth 100000 in
theorem rin_any (n a b : Int) (w : World) : Calls Try.prog 77 [i64 n, i64 a, i64 b].toArray w (Ret w (.bool (decide (a ≤ n ∧ n ≤ b)))) := by
  refine fEnter Try.func77 rfl Try.ntmps77 rfl ?_
  refine kSeq ?_
  refine kRegion rfl ?_
  refine lV (yAssign rfl) rfl rfl ?_
  refine lNil ?_
  refine kThen ?_
  refine kSeq ?_
  refine kRegion rfl ?_
  refine lV (yMove rfl) rfl rfl ?_
  refine lV (yMove rfl) rfl rfl ?_
  refine lV (yLeq rfl rfl) rfl rfl ?_
  refine lV (yMove rfl) rfl rfl ?_
  refine split (t := 10) rfl (fun h10 => ?_) (fun h10 => ?_)
  · refine lGY rfl rfl rfl (oV (yMove rfl) rfl ?_)
    refine lGY rfl rfl rfl (oV (yMove rfl) rfl ?_)
    refine lGY rfl rfl rfl (oV (yLeq rfl rfl) rfl ?_)
    refine lV (yPickT rfl rfl) rfl rfl ?_
    refine lV (yAssign rfl) rfl rfl ?_
    refine lNil ?_
    refine kThen ?_
    refine kRet ?_
    refine fRet rfl (.t rfl .n) (endRet ?_)
    simp [packV, *]
  · refine lGN rfl rfl rfl rfl rfl ?_
    refine lGN rfl rfl rfl rfl rfl ?_
    refine lGN rfl rfl rfl rfl rfl ?_
    refine lV (yPickF rfl rfl) rfl rfl ?_
    refine lV (yAssign rfl) rfl rfl ?_
    refine lNil ?_
    refine kThen ?_
    refine kRet ?_
    refine fRet rfl (.t rfl .n) (endRet ?_)
    simp [packV, *]
set_option maxRecDepth 100000 in
theorem rstarB_any (y : Option Addr × Nat) (p : Plt) (n : Int) (w : World) (hL : p.st.length ≤ 1000000) : Calls Try.prog 66 [.agg (pltC y p).toArray, i64 n].toArray w (Ret w (.bool (isStarB p n))) := by
  refine fEnter Try.func66 rfl Try.ntmps66 rfl ?_
  refine kSeq ?_
  refine kRegion rfl ?_
  refine lE rfl ?_
  refine eBoxA rfl fun n2 => ?_
  refine lV (yAssign rfl) rfl rfl ?_
  refine lNil ?_
  refine kThen ?_
  refine kSeq ?_
  refine kRegion rfl ?_
  refine lV (yMove rfl) rfl rfl ?_
  refine lV (yFieldAddr rfl F26_1) rfl rfl ?_
  refine lV (yLoad1 rfl O24 (cOwn 0 rfl rfl)) rfl rfl ?_
  refine lV (yLen rfl S24) rfl rfl ?_
  refine lV (ySub rfl rfl (by omega)) rfl rfl ?_
  refine lV (yCall rfl (.c rfl (.c rfl (.c rfl .n))) C77 (fun w hw => rin_any _ _ _ w)) rfl rfl ?_
  refine lV (yAssign rfl) rfl rfl ?_
  refine lNil ?_
  refine kThen ?_
  refine kRet ?_
  refine fRet rfl (.t rfl .n) (endRet ?_)
  rfl
abbrev plV (p : Plt) (n : Nat) (d : Bool) (s : Int) : Int × Int := ((placeP d (p.st.getD n star0) s (cornP p d s (knownP p)).1).1, (placeP d (p.st.getD n star0) s (cornP p d s (knownP p)).2).2)
set_option maxRecDepth 100000 in
set_option maxHeartbeats 2000000 in
theorem rplaces_any (y : Option Addr × Nat) (p : Plt) (n : Nat) (s : Int) (d : Bool) (w : World) (hm : InP w y p) (hp : PltOk p) (hn : n < p.st.length) (hs : s ∈ scalesP p (knownP p)) : Calls Try.prog 67 [.agg (pltC y p).toArray, i64 (n : Nat), i64 s, .bool d].toArray w (Ret w (.agg (rowE (plV p n d s)).toArray)) := by
  have hl := hp.n
  have hsc := mem_sc hp hs
  have hle := (mem_at hs d).1
  have hbd := corn_bd (scalesP_mem.1 hs).2 d
  have hmo := place_mono d (p.st.getD n star0) s hle
  have hok := hp.s _ (getD_mem hn star0)
  refine fEnter Try.func67 rfl Try.ntmps67 rfl ?_
  refine kSeq ?_
  refine kRegion rfl ?_
  refine lE rfl ?_
  refine eBoxA rfl fun n4 => ?_
  refine lE rfl ?_
  refine eAlloc Z23 fun n8 => ?_
  refine lNil ?_
  refine kThen ?_
  refine kSeq ?_
  refine kDrawE [(0, none), (1, none), (2, none), (5, none)] [] [0, 1, 2, 3, 4, 5] 2 hMix (by kernel_rfl) ?_
  refine .run rfl (yLoadA (vs := [_, _, _]) rfl A26 (cOwn 1 rfl rfl)) rfl rfl ?_
  refine .run rfl (yLoadA (vs := [_, _, _]) rfl A26 (cOwn 1 rfl rfl)) rfl rfl ?_
  refine .run rfl (yCall rfl (.c rfl .n) C38 (fun w hw => rknown_any y p w (hm.eff0 hw) (by omega))) rfl rfl ?_
  refine .run rfl (yMove rfl) rfl rfl ?_
  refine .run rfl (yMove rfl) rfl rfl ?_
  refine .run rfl (yCall rfl (.c rfl (.c rfl (.c rfl (.c rfl .n)))) C62 (fun w hw => rcorner_any y p d s (knownP p) w (hm.eff0 hw) hp (by omega) (known_ok p))) rfl rfl ?_
  refine .done ?_
  refine effStep 6 [] (by kernel_rfl) closedSt (hLeft [0, 1, 2, 5] (by kernel_rfl) (.c (fun _ _ hs => hs.ef) (.c (fun _ _ hs => hs.ef) (.c (fun _ _ hs => hs.ef) (.c (fun _ _ hs => hs.ef) .n))))) ?_
  refine .c ?_ .n
  refine effOne rfl (gNone rfl (fAlloc Z23)) ?_
  refine effStep 7 [] (by kernel_rfl) (closedEx fun n9 => closedSt) (hLeft [0, 1, 2, 5] (by kernel_rfl) (.c (fun _ _ ⟨n9, hs⟩ => hs.ef.sub (.c 1 rfl (.c 1 rfl .n))) (.c (fun _ _ ⟨n9, hs⟩ => hs.ef.sub (.c 1 rfl (.c 1 rfl .n))) (.c (fun _ _ ⟨n9, hs⟩ => hs.ef.sub (.c 1 rfl (.c 1 rfl .n))) (.c (fun _ _ ⟨n9, hs⟩ => hs.ef.sub (.c 1 rfl (.c 1 rfl .n))) .n))))) ?_
  refine .c ?_ .n
  refine effOne rfl (opEx fun n9 => (gNone rfl (fStoreL 0 rfl rfl rfl rfl K23 rfl (rfl)))) ?_
  refine effDone (closedEx fun n9 => closedSt) (hLeft [] (by kernel_rfl) .n) (by kernel_rfl) ?_
  refine trEx fun n9 => ?_
  refine kThen ?_
  refine kSeq ?_
  refine kDrawE [(1, none), (3, none), (4, none), (7, none), (9, none), (11, none), (13, none), (14, none), (17, none), (19, none), (20, none)] [] [0, 1, 2, 3, 4, 5, 6, 7, 8, 9, 10, 11, 12, 13, 14, 15, 16, 17, 18, 19, 20] 1 hMix (by kernel_rfl) ?_
  refine .run rfl (yFieldAddr rfl F26_1) rfl rfl ?_
  refine .run rfl (yLoad1 rfl O24 (cOwn 2 rfl rfl)) rfl rfl ?_
  refine .run rfl (yMove rfl) rfl rfl ?_
  refine .run rfl (yIndexS  rfl rfl S24 (hm.r) (hn)) rfl rfl ?_
  refine .run rfl (yLoadA (vs := [_, _, _, _, _, _, _, _, _]) rfl A58 (cSl0 (hm.r) (hn) rfl)) rfl rfl ?_
  refine .run rfl (yMove rfl) rfl rfl ?_
  refine .run rfl (yFieldAddr rfl F23_0) rfl rfl ?_
  refine .run rfl (yLoad1 rfl O3 (cOwn 0 rfl rfl)) rfl rfl ?_
  refine .run rfl (yMove rfl) rfl rfl ?_
  refine .run rfl (yCall rfl (.c rfl (.c rfl (.c rfl (.c rfl .n)))) C106 (fun w hw => rplace_any (p.st.getD n star0) s (cornP p d s (knownP p)).1 d w hok (by omega) (by omega))) rfl rfl ?_
  refine .run rfl (yFieldAddr rfl F26_1) rfl rfl ?_
  refine .run rfl (yLoad1 rfl O24 (cOwn 2 rfl rfl)) rfl rfl ?_
  refine .run rfl (yMove rfl) rfl rfl ?_
  refine .run rfl (yIndexS  rfl rfl S24 (hm.r) (hn)) rfl rfl ?_
  refine .run rfl (yLoadA (vs := [_, _, _, _, _, _, _, _, _]) rfl A58 (cSl0 (hm.r) (hn) rfl)) rfl rfl ?_
  refine .run rfl (yMove rfl) rfl rfl ?_
  refine .run rfl (yFieldAddr rfl F23_1) rfl rfl ?_
  refine .run rfl (yLoad1 rfl O3 (cOwn 0 rfl rfl)) rfl rfl ?_
  refine .run rfl (yMove rfl) rfl rfl ?_
  refine .run rfl (yCall rfl (.c rfl (.c rfl (.c rfl (.c rfl .n)))) C106 (fun w hw => rplace_any (p.st.getD n star0) s (cornP p d s (knownP p)).2 d w hok (by omega) (by omega))) rfl rfl ?_
  refine .run rfl (yvSame (u := .agg (rowE (plV p n d s)).toArray) (yCall rfl (.c rfl (.c rfl (.c rfl .n))) C61 (fun w hw => rhull_any (placeP d (p.st.getD n star0) s (cornP p d s (knownP p)).1) (placeP d (p.st.getD n star0) s (cornP p d s (knownP p)).2) false w)) (by unfold hullV plV; simp only [Bool.false_eq_true, if_false]; rw [Int.min_eq_left hmo.1, Int.max_eq_right hmo.2])) rfl rfl ?_
  refine .done ?_
  refine effStep 21 [] (by kernel_rfl) closedSt (hLeft [1, 3, 4, 7, 9, 11, 13, 14, 17, 19, 20] (by kernel_rfl) (.c (fun _ _ hs => hs.ef) (.c (fun _ _ hs => hs.ef) (.c (fun _ _ hs => hs.ef) (.c (fun _ _ hs => hs.ef) (.c (fun _ _ hs => hs.ef) (.c (fun _ _ hs => hs.ef) (.c (fun _ _ hs => hs.ef) (.c (fun _ _ hs => hs.ef) (.c (fun _ _ hs => hs.ef) (.c (fun _ _ hs => hs.ef) (.c (fun _ _ hs => hs.ef) .n)))))))))))) ?_
  refine .c ?_ .n
  refine effOne rfl (gNone rfl (fStoreL 1 rfl rfl rfl rfl K23 rfl (rfl))) ?_
  refine effDone closedSt (hLeft [] (by kernel_rfl) .n) (by kernel_rfl) ?_
  refine kThen ?_
  refine kRet ?_
  refine fRet rfl (.cA (us := [_, _]) rfl A23 (cOwn 1 rfl rfl) .n) (endRet ?_)
  rfl
def pf (p : Plt) (n : Nat) (d : Bool) (i : Nat) : Int × Int := plV p n d ((scalesP p (knownP p)).getD i 0)
theorem pf_eq {p : Plt} (hp : PltOk p) {n : Nat} (hn : n < p.st.length) (d : Bool) (hs : scalesP p (knownP p) ≠ []) : hullF (pf p n d) (scalesP p (knownP p)).length = spanE (starH p n d) :=
  hullF_eq (f := fun s => (placeP d (p.st.getD n star0) s (cornP p d s (knownP p)).1).1) (g := fun s => (placeP d (p.st.getD n star0) s (cornP p d s (knownP p)).2).2) hs fun _ h => place_le hp hn d h
set_option maxRecDepth 100000 in
set_option maxHeartbeats 4000000 in
theorem rstar_bad (y : Option Addr × Nat) (p : Plt) (n : Int) (w : World) (hm : InP w y p) (hL : p.st.length ≤ 30) (h : toldE p (isStarB p n) ≠ 0) : Calls Try.prog 20 [.agg (pltC y p).toArray, i64 n].toArray w (Ret w (outC2 (starE p n))) := by
  have e : starE p n = ((0, 0), (0, 0), toldE p (isStarB p n)) := by unfold starE; rw [if_pos h]
  rw [e]
  refine fEnter Try.func20 rfl Try.ntmps20 rfl ?_
  refine kSeq ?_
  refine kRegion rfl ?_
  refine lE rfl ?_
  refine eBoxA rfl fun n2 => ?_
  refine lE rfl ?_
  refine eAlloc Z23 fun n4 => ?_
  refine lE rfl ?_
  refine eAlloc Z23 fun n5 => ?_
  refine lV (yAssign rfl) rfl rfl ?_
  refine lNil ?_
  refine kThen ?_
  refine kSeq ?_
  refine kDrawE [(0, none), (1, none), (3, none), (4, none)] [] [0, 1, 2, 3, 4, 5, 6, 7, 8, 9] 0 hMix (by kernel_rfl) ?_
  refine .run rfl (yLoadA (vs := [_, _, _]) rfl A26 (cOwn 2 rfl rfl)) rfl rfl ?_
  refine .run rfl (yLoadA (vs := [_, _, _]) rfl A26 (cOwn 2 rfl rfl)) rfl rfl ?_
  refine .run rfl (yMove rfl) rfl rfl ?_
  refine .run rfl (yCall rfl (.c rfl (.c rfl .n)) C66 (fun w hw => rstarB_any y p n w (by omega))) rfl rfl ?_
  refine .run rfl (yCall rfl (.c rfl (.c rfl .n)) C60 (fun w hw => rdoubt_bad y p (isStarB p n) w (hm.eff0 hw) hL h)) rfl rfl ?_
  refine .run rfl (yMove rfl) rfl rfl ?_
  refine .run rfl (yExtract rfl rfl) rfl rfl ?_
  refine .run rfl (yExtract rfl rfl) rfl rfl ?_
  refine .run rfl (yAssign rfl) rfl rfl ?_
  refine .run rfl (yAssign rfl) rfl rfl ?_
  refine .done ?_
  refine effDone closedSt (hLeft [0, 1, 3, 4] (by kernel_rfl) (.c (fun _ _ hs => hs.ef) (.c (fun _ _ hs => hs.ef) (.c (fun _ _ hs => hs.ef) (.c (fun _ _ hs => hs.ef) .n))))) (by kernel_rfl) ?_
  refine kThen ?_
  refine kSeq ?_
  refine kSeq ?_
  refine kRegion rfl ?_
  refine lV (yMove rfl) rfl rfl ?_
  refine lV (yNeq rfl rfl) rfl rfl ?_
  refine known (t := 21) rfl (h) ?_
  refine lNil ?_
  refine kThen ?_
  refine kIfT rfl ?_
  refine kSeq ?_
  refine kRegion rfl ?_
  refine lV (yBuild .n (fun w => B23_ w)) rfl rfl ?_
  refine lV (yBuild .n (fun w => B23_ w)) rfl rfl ?_
  refine lV (yMove rfl) rfl rfl ?_
  refine lE rfl ?_
  refine eStoreL 1 rfl rfl rfl rfl K23 rfl (rfl) ?_
  refine lE rfl ?_
  refine eStoreL 0 rfl rfl rfl rfl K23 rfl (rfl) ?_
  refine lV (yAssign rfl) rfl rfl ?_
  refine lNil ?_
  refine kThen ?_
  refine kRet ?_
  refine kThenR ?_
  refine fRet rfl (.cA (us := [_, _]) rfl A23 (cOwn 1 rfl rfl) (.cA (us := [_, _]) rfl A23 (cOwn 0 rfl rfl) (.t rfl .n))) (endRet ?_)
  rfl
set_option maxRecDepth 100000 in
set_option maxHeartbeats 4000000 in
theorem rstar_ok (y : Option Addr × Nat) (p : Plt) (n : Nat) (w : World) (hm : InP w y p) (hp : PltOk p) (hn : n < p.st.length) (hs : scalesP p (knownP p) ≠ []) (hk : knownP p ≠ 0) (h : toldE p (isStarB p (n : Nat)) = 0) :
    Calls Try.prog 20 [.agg (pltC y p).toArray, i64 (n : Nat)].toArray w (Ret w (outC2 (starE p (n : Nat)))) := by
  have hl := hp.n
  have hb : isStarB p (n : Nat) = true := decide_eq_true (by omega)
  have e : starE p (n : Nat) = (hullF (pf p n false) (scalesP p (knownP p)).length, hullF (pf p n true) (scalesP p (knownP p)).length, 0) := by
    rw [star_eq h, pf_eq hp hn false hs, pf_eq hp hn true hs]
  have hsl := scales_len hp
  rw [e]
  refine fEnter Try.func20 rfl Try.ntmps20 rfl ?_
  refine kSeq ?_
  refine kRegion rfl ?_
  refine lE rfl ?_
  refine eBoxA rfl fun n2 => ?_
  refine lE rfl ?_
  refine eAlloc Z23 fun n4 => ?_
  refine lE rfl ?_
  refine eAlloc Z23 fun n5 => ?_
  refine lV (yAssign rfl) rfl rfl ?_
  refine lNil ?_
  refine kThen ?_
  refine kSeq ?_
  refine kDrawE [(0, none), (1, none), (3, none)] [] [0, 1, 2, 3] 6 hMix (by kernel_rfl) ?_
  refine .run rfl (yLoadA (vs := [_, _, _]) rfl A26 (cOwn 2 rfl rfl)) rfl rfl ?_
  refine .run rfl (yLoadA (vs := [_, _, _]) rfl A26 (cOwn 2 rfl rfl)) rfl rfl ?_
  refine .run rfl (yMove rfl) rfl rfl ?_
  refine .run rfl (yvIs (c := true) (yCall rfl (.c rfl (.c rfl .n)) C66 (fun w hw => rstarB_any y p (n : Nat) w (by omega))) (hb)) rfl rfl ?_
  refine .done ?_
  refine effStep 4 [] (by kernel_rfl) closedSt (hLeft [0, 1, 3] (by kernel_rfl) (.c (fun _ _ hs => hs.ef) (.c (fun _ _ hs => hs.ef) (.c (fun _ _ hs => hs.ef) .n)))) ?_
  refine .c ?_ .n
  refine effOne rfl (gNone rfl (fCallO rfl (.c rfl (.c rfl .n)) C60 (fun w hw => rdoubt_ok y p w (hm.eff0 hw) hp hs hk))) ?_
  refine effStep 5 [] (by kernel_rfl) (closedEx fun g => closedSt) (hLeft [] (by kernel_rfl) .n) ?_
  refine .c ?_ .n
  refine effOne rfl (opEx fun g => (gNone rfl (fV (yMove rfl) rfl))) ?_
  refine effStep 6 [7] (by kernel_rfl) (closedEx fun g => closedSt) (hLeft [] (by kernel_rfl) .n) ?_
  refine (.c ?_ (.c ?_ .n))
  · refine effOne rfl (opEx fun g => (gNone rfl (fV (yExtract rfl rfl) rfl))) ?_
    refine effStep 7 [8] (by kernel_rfl) (closedEx fun g => closedSt) (hLeft [] (by kernel_rfl) .n) ?_
    refine (.c ?_ (.c ?_ .n))
    · refine effOne rfl (opEx fun g => (gNone rfl (fV (yExtract rfl rfl) rfl))) ?_
      refine effStep 8 [] (by kernel_rfl) (closedEx fun g => closedSt) (hLeft [] (by kernel_rfl) .n) ?_
      refine .c ?_ .n
      refine effOne rfl (opEx fun g => (gNone rfl (fV (yAssign rfl) rfl))) ?_
      refine effStep 9 [] (by kernel_rfl) (closedEx fun g => closedSt) (hLeft [] (by kernel_rfl) .n) ?_
      refine .c ?_ .n
      refine effOne rfl (opEx fun g => (gNone rfl (fV (yAssign rfl) rfl))) ?_
      refine effDone (closedEx fun g => closedSt) (hLeft [] (by kernel_rfl) .n) (by kernel_rfl) ?_
      refine trEx fun g => ?_
      refine kThen ?_
      refine kSeq ?_
      refine kSeq ?_
      refine kRegion rfl ?_
      refine lV (yMove rfl) rfl rfl ?_
      refine lV (yNeq rfl rfl) rfl rfl ?_
      refine knownN (t := 21) rfl (by simp) ?_
      refine lNil ?_
      refine kThen ?_
      refine kIfF rfl ?_
      refine kSkip ?_
      refine kThen ?_
      refine kSeq ?_
      refine kRegion rfl ?_
      refine lE rfl ?_
      refine eAlloc Z23 fun n9 => ?_
      refine lE rfl ?_
      refine eAlloc Z23 fun n10 => ?_
      refine lNil ?_
      refine kThen ?_
      refine kSeq ?_
      refine kSeq ?_
      refine kRegion rfl ?_
      refine lV (yAssign rfl) rfl rfl ?_
      refine lNil ?_
      refine kThen ?_
      refine kBlock ?_
      refine kLoopX (ι := Nat) (fun i => i ≤ (scalesP p (knownP p)).length) (fun i => [(11, i64 (i : Nat))]) [(0, _), (1, _), (2, _), (4, _), (5, _), (6, _), (13, _), (14, _), (15, _), (16, _), (17, _), (12, _), (18, _), (19, _), (7, _), (8, _), (20, _), (21, _), (9, _), (10, _)] (fun i => []) (fun i => ([(n9, blk (rowE (hullF (pf p n false) i)) 23), (n10, blk (rowE (hullF (pf p n true) i)) 23)] ++ osL 3 g.1)) [(n5, _), (n4, _), (n2, _)] (fun i => (scalesP p (knownP p)).length - i) 0 (Nat.zero_le _) rfl (.c rfl .n) (.c rfl (.c rfl (.c rfl (.c rfl (.c rfl (.c rfl (.c rfl (.c rfl (.c rfl (.c rfl (.c rfl (.c rfl (.c rfl (.c rfl (.c rfl (.c rfl (.c rfl (.c rfl (.c rfl (.c rfl .n)))))))))))))))))))) (.c 2 rfl (.c 2 rfl (.c 2 rfl (.c 1 rfl (.c 0 rfl .r))))) ?_
      rintro i hi
      refine kSeq ?_
      refine kSeq ?_
      have hgl : ((scalesP p (knownP p)).map rowI).length = (scalesP p (knownP p)).length := List.length_map _
      refine kRegion rfl ?_
      refine lV (yMove rfl) rfl rfl ?_
      refine lV (yMove rfl) rfl rfl ?_
      refine lV (yLen rfl S56) rfl rfl ?_
      refine lV (yLss rfl rfl) rfl rfl ?_
      refine lNil ?_
      refine kThen ?_
      refine split (t := 28) rfl (fun h28 => ?_) (fun h28 => ?_)
      · refine kIfT rfl ?_
        refine kSkip ?_
        refine kThen ?_
        refine kSeq ?_
        refine kBlock ?_
        refine kSeq ?_
        have hmem := getD_mem (l := scalesP p (knownP p)) (i := i) (by omega) 0
        refine kDrawE [(0, none), (1, none), (5, none), (6, none), (7, none), (10, none)] [] [0, 1, 2, 3, 4, 5, 6, 7, 8, 9, 10] 1 hMix (by kernel_rfl) ?_
        refine .run rfl (yLoadA (vs := [_, _]) rfl A23 (cOwn 3 rfl rfl)) rfl rfl ?_
        refine .run rfl (yLoadA (vs := [_, _, _]) rfl A26 (cOwn 2 rfl rfl)) rfl rfl ?_
        refine .run rfl (yMove rfl) rfl rfl ?_
        refine .run rfl (yMove rfl) rfl rfl ?_
        refine .run rfl (yMove rfl) rfl rfl ?_
        refine .run rfl (yIndexS  rfl rfl S56 ((fun w hw => (OS.rowsE (f := rowI) 0 g.2 hw (.d 0 (.d 0 (.d 0 (.d 0 (.d 0 .r)))))).congr hgl fun i _ => rfl)) ((by omega))) rfl rfl ?_
        refine .run rfl (yLoad1 rfl O3 (cSl0 ((fun w hw => (OS.rowsE (f := rowI) 0 g.2 hw (.d 0 (.d 0 (.d 0 (.d 0 (.d 0 .r)))))).congr hgl fun i _ => rfl)) ((by omega)) rfl)) rfl rfl ?_
        refine .run rfl (yCall rfl (.c rfl (.c rfl (.c rfl (.c rfl .n)))) C67 (fun w hw => rplaces_any y p n ((scalesP p (knownP p)).getD i 0) false w (hm.eff0 hw) hp hn hmem)) rfl rfl ?_
        refine .run rfl (yMove rfl) rfl rfl ?_
        refine .run rfl (yEql rfl rfl) rfl rfl ?_
        refine .run rfl (yvSame (u := .agg (rowE (hullF (pf p n false) (i + 1))).toArray) (yCall rfl (.c rfl (.c rfl (.c rfl .n))) C61 (fun w hw => rhull_any (hullF (pf p n false) i) (pf p n false i) (decide ((i : Int) = 0)) w)) (by rw [hullF_succ])) rfl rfl ?_
        refine .done ?_
        refine effStep 11 [] (by kernel_rfl) closedSt (hLeft [0, 1, 5, 6, 7, 10] (by kernel_rfl) (.c (fun _ _ hs => hs.ef) (.c (fun _ _ hs => hs.ef) (.c (fun _ _ hs => hs.ef) (.c (fun _ _ hs => hs.ef) (.c (fun _ _ hs => hs.ef) (.c (fun _ _ hs => hs.ef) .n))))))) ?_
        refine .c ?_ .n
        refine effOne rfl (gNone rfl (fStoreL 3 rfl rfl rfl rfl K23 rfl (rfl))) ?_
        refine effDone closedSt (hLeft [] (by kernel_rfl) .n) (by kernel_rfl) ?_
        refine kThen ?_
        refine kDrawE [(0, none), (1, none), (5, none), (6, none), (7, none), (10, none)] [] [0, 1, 2, 3, 4, 5, 6, 7, 8, 9, 10] 1 hMix (by kernel_rfl) ?_
        refine .run rfl (yLoadA (vs := [_, _]) rfl A23 (cOwn 4 rfl rfl)) rfl rfl ?_
        refine .run rfl (yLoadA (vs := [_, _, _]) rfl A26 (cOwn 2 rfl rfl)) rfl rfl ?_
        refine .run rfl (yMove rfl) rfl rfl ?_
        refine .run rfl (yMove rfl) rfl rfl ?_
        refine .run rfl (yMove rfl) rfl rfl ?_
        refine .run rfl (yIndexS  rfl rfl S56 ((fun w hw => (OS.rowsE (f := rowI) 0 g.2 hw (.d 0 (.d 0 (.d 0 (.d 0 (.d 0 .r)))))).congr hgl fun i _ => rfl)) ((by omega))) rfl rfl ?_
        refine .run rfl (yLoad1 rfl O3 (cSl0 ((fun w hw => (OS.rowsE (f := rowI) 0 g.2 hw (.d 0 (.d 0 (.d 0 (.d 0 (.d 0 .r)))))).congr hgl fun i _ => rfl)) ((by omega)) rfl)) rfl rfl ?_
        refine .run rfl (yCall rfl (.c rfl (.c rfl (.c rfl (.c rfl .n)))) C67 (fun w hw => rplaces_any y p n ((scalesP p (knownP p)).getD i 0) true w (hm.eff0 hw) hp hn hmem)) rfl rfl ?_
        refine .run rfl (yMove rfl) rfl rfl ?_
        refine .run rfl (yEql rfl rfl) rfl rfl ?_
        refine .run rfl (yvSame (u := .agg (rowE (hullF (pf p n true) (i + 1))).toArray) (yCall rfl (.c rfl (.c rfl (.c rfl .n))) C61 (fun w hw => rhull_any (hullF (pf p n true) i) (pf p n true i) (decide ((i : Int) = 0)) w)) (by rw [hullF_succ])) rfl rfl ?_
        refine .done ?_
        refine effStep 11 [] (by kernel_rfl) closedSt (hLeft [0, 1, 5, 6, 7, 10] (by kernel_rfl) (.c (fun _ _ hs => hs.ef) (.c (fun _ _ hs => hs.ef) (.c (fun _ _ hs => hs.ef) (.c (fun _ _ hs => hs.ef) (.c (fun _ _ hs => hs.ef) (.c (fun _ _ hs => hs.ef) .n))))))) ?_
        refine .c ?_ .n
        refine effOne rfl (gNone rfl (fStoreL 4 rfl rfl rfl rfl K23 rfl (rfl))) ?_
        refine effDone closedSt (hLeft [] (by kernel_rfl) .n) (by kernel_rfl) ?_
        refine kInN ?_
        refine kThen ?_
        refine kRegion rfl ?_
        refine lV (yMove rfl) rfl rfl ?_
        refine lV (yAdd rfl rfl (by omega)) rfl rfl ?_
        refine lV (yAssign rfl) rfl rfl ?_
        refine lNil ?_
        exact kRoundX (i + 1) (by omega) (by omega) rfl (.c rfl .n) (.c rfl (.c rfl (.c rfl (.c rfl (.c rfl (.c rfl (.c rfl (.c rfl (.c rfl (.c rfl (.c rfl (.c rfl (.c rfl (.c rfl (.c rfl (.c rfl (.c rfl (.c rfl (.c rfl (.c rfl .n)))))))))))))))))))) (.c 0 rfl (.c 0 rfl (.c 0 rfl (.c 0 rfl (.c 0 rfl .r)))))
      · refine kIfF rfl ?_
        refine kExit ?_
        refine kThenX ?_
        refine kThenX ?_
        refine kInX ?_
        refine kThen ?_
        refine kSeq ?_
        refine kDrawE [(0, none), (1, some [0, 2, 3, 4])] [] [0, 1, 4] 2 hMix (by kernel_rfl) ?_
        refine .run rfl (yLoadA (vs := [_, _]) rfl A23 (cOwn 3 rfl rfl)) rfl rfl ?_
        refine .run rfl (yLoadA (vs := [_, _]) rfl A23 (cOwn 3 rfl rfl)) rfl rfl ?_
        refine .run rfl (yAssign rfl) rfl rfl ?_
        refine .done ?_
        refine effStep 2 [] (by kernel_rfl) closedSt (hLeft [0, 1] (by kernel_rfl) (.c (fun _ _ hs => hs.ef) (.c (fun _ _ hs => hs.ef.sub (.c 0 rfl (.c 1 rfl (.c 1 rfl (.c 1 rfl .n))))) .n))) ?_
        refine .c ?_ .n
        refine effOne rfl (gNone rfl (fStoreL 1 rfl rfl rfl rfl K23 rfl (rfl))) ?_
        refine effStep 3 [] (by kernel_rfl) closedSt (hLeft [1] (by kernel_rfl) (.c (fun _ _ hs => hs.ef.sub (.c 0 rfl (.c 1 rfl (.c 1 rfl (.c 1 rfl .n))))) .n)) ?_
        refine .c ?_ .n
        refine effOne rfl (gNone rfl (fStoreL 0 rfl rfl rfl rfl K23 rfl (rfl))) ?_
        refine effDone closedSt (hLeft [] (by kernel_rfl) .n) (by kernel_rfl) ?_
        refine kThen ?_
        refine kRet ?_
        refine fRet rfl (.cA (us := [_, _]) rfl A23 (cOwn 1 rfl rfl) (.cA (us := [_, _]) rfl A23 (cOwn 0 rfl rfl) (.t rfl .n))) (endRet ?_)
        obtain rfl : i = (scalesP p (knownP p)).length := by omega
        rfl
    · refine effOne rfl (opEx fun g => (gNone rfl (fV (yAssign rfl) rfl))) ?_
      refine effStep 7 [] (by kernel_rfl) (closedEx fun g => closedSt) (hLeft [] (by kernel_rfl) .n) ?_
      refine .c ?_ .n
      refine effOne rfl (opEx fun g => (gNone rfl (fV (yExtract rfl rfl) rfl))) ?_
      refine effStep 9 [] (by kernel_rfl) (closedEx fun g => closedSt) (hLeft [] (by kernel_rfl) .n) ?_
      refine .c ?_ .n
      refine effOne rfl (opEx fun g => (gNone rfl (fV (yAssign rfl) rfl))) ?_
      refine effDone (closedEx fun g => closedSt) (hLeft [] (by kernel_rfl) .n) (by kernel_rfl) ?_
      refine trEx fun g => ?_
      refine kThen ?_
      refine kSeq ?_
      refine kSeq ?_
      refine kRegion rfl ?_
      refine lV (yMove rfl) rfl rfl ?_
      refine lV (yNeq rfl rfl) rfl rfl ?_
      refine knownN (t := 21) rfl (by simp) ?_
      refine lNil ?_
      refine kThen ?_
      refine kIfF rfl ?_
      refine kSkip ?_
      refine kThen ?_
      refine kSeq ?_
      refine kRegion rfl ?_
      refine lE rfl ?_
      refine eAlloc Z23 fun n9 => ?_
      refine lE rfl ?_
      refine eAlloc Z23 fun n10 => ?_
      refine lNil ?_
      refine kThen ?_
      refine kSeq ?_
      refine kSeq ?_
      refine kRegion rfl ?_
      refine lV (yAssign rfl) rfl rfl ?_
      refine lNil ?_
      refine kThen ?_
      refine kBlock ?_
      refine kLoopX (ι := Nat) (fun i => i ≤ (scalesP p (knownP p)).length) (fun i => [(11, i64 (i : Nat))]) [(0, _), (1, _), (2, _), (4, _), (5, _), (6, _), (13, _), (14, _), (15, _), (16, _), (17, _), (12, _), (18, _), (7, _), (19, _), (8, _), (20, _), (21, _), (9, _), (10, _)] (fun i => []) (fun i => ([(n9, blk (rowE (hullF (pf p n false) i)) 23), (n10, blk (rowE (hullF (pf p n true) i)) 23)] ++ osL 3 g.1)) [(n5, _), (n4, _), (n2, _)] (fun i => (scalesP p (knownP p)).length - i) 0 (Nat.zero_le _) rfl (.c rfl .n) (.c rfl (.c rfl (.c rfl (.c rfl (.c rfl (.c rfl (.c rfl (.c rfl (.c rfl (.c rfl (.c rfl (.c rfl (.c rfl (.c rfl (.c rfl (.c rfl (.c rfl (.c rfl (.c rfl (.c rfl .n)))))))))))))))))))) (.c 2 rfl (.c 2 rfl (.c 2 rfl (.c 1 rfl (.c 0 rfl .r))))) ?_
      rintro i hi
      refine kSeq ?_
      refine kSeq ?_
      have hgl : ((scalesP p (knownP p)).map rowI).length = (scalesP p (knownP p)).length := List.length_map _
      refine kRegion rfl ?_
      refine lV (yMove rfl) rfl rfl ?_
      refine lV (yMove rfl) rfl rfl ?_
      refine lV (yLen rfl S56) rfl rfl ?_
      refine lV (yLss rfl rfl) rfl rfl ?_
      refine lNil ?_
      refine kThen ?_
      refine split (t := 28) rfl (fun h28 => ?_) (fun h28 => ?_)
      · refine kIfT rfl ?_
        refine kSkip ?_
        refine kThen ?_
        refine kSeq ?_
        refine kBlock ?_
        refine kSeq ?_
        have hmem := getD_mem (l := scalesP p (knownP p)) (i := i) (by omega) 0
        refine kDrawE [(0, none), (1, none), (5, none), (6, none), (7, none), (10, none)] [] [0, 1, 2, 3, 4, 5, 6, 7, 8, 9, 10] 1 hMix (by kernel_rfl) ?_
        refine .run rfl (yLoadA (vs := [_, _]) rfl A23 (cOwn 3 rfl rfl)) rfl rfl ?_
        refine .run rfl (yLoadA (vs := [_, _, _]) rfl A26 (cOwn 2 rfl rfl)) rfl rfl ?_
        refine .run rfl (yMove rfl) rfl rfl ?_
        refine .run rfl (yMove rfl) rfl rfl ?_
        refine .run rfl (yMove rfl) rfl rfl ?_
        refine .run rfl (yIndexS  rfl rfl S56 ((fun w hw => (OS.rowsE (f := rowI) 0 g.2 hw (.d 0 (.d 0 (.d 0 (.d 0 (.d 0 .r)))))).congr hgl fun i _ => rfl)) ((by omega))) rfl rfl ?_
        refine .run rfl (yLoad1 rfl O3 (cSl0 ((fun w hw => (OS.rowsE (f := rowI) 0 g.2 hw (.d 0 (.d 0 (.d 0 (.d 0 (.d 0 .r)))))).congr hgl fun i _ => rfl)) ((by omega)) rfl)) rfl rfl ?_
        refine .run rfl (yCall rfl (.c rfl (.c rfl (.c rfl (.c rfl .n)))) C67 (fun w hw => rplaces_any y p n ((scalesP p (knownP p)).getD i 0) false w (hm.eff0 hw) hp hn hmem)) rfl rfl ?_
        refine .run rfl (yMove rfl) rfl rfl ?_
        refine .run rfl (yEql rfl rfl) rfl rfl ?_
        refine .run rfl (yvSame (u := .agg (rowE (hullF (pf p n false) (i + 1))).toArray) (yCall rfl (.c rfl (.c rfl (.c rfl .n))) C61 (fun w hw => rhull_any (hullF (pf p n false) i) (pf p n false i) (decide ((i : Int) = 0)) w)) (by rw [hullF_succ])) rfl rfl ?_
        refine .done ?_
        refine effStep 11 [] (by kernel_rfl) closedSt (hLeft [0, 1, 5, 6, 7, 10] (by kernel_rfl) (.c (fun _ _ hs => hs.ef) (.c (fun _ _ hs => hs.ef) (.c (fun _ _ hs => hs.ef) (.c (fun _ _ hs => hs.ef) (.c (fun _ _ hs => hs.ef) (.c (fun _ _ hs => hs.ef) .n))))))) ?_
        refine .c ?_ .n
        refine effOne rfl (gNone rfl (fStoreL 3 rfl rfl rfl rfl K23 rfl (rfl))) ?_
        refine effDone closedSt (hLeft [] (by kernel_rfl) .n) (by kernel_rfl) ?_
        refine kThen ?_
        refine kDrawE [(0, none), (1, none), (5, none), (6, none), (7, none), (10, none)] [] [0, 1, 2, 3, 4, 5, 6, 7, 8, 9, 10] 1 hMix (by kernel_rfl) ?_
        refine .run rfl (yLoadA (vs := [_, _]) rfl A23 (cOwn 4 rfl rfl)) rfl rfl ?_
        refine .run rfl (yLoadA (vs := [_, _, _]) rfl A26 (cOwn 2 rfl rfl)) rfl rfl ?_
        refine .run rfl (yMove rfl) rfl rfl ?_
        refine .run rfl (yMove rfl) rfl rfl ?_
        refine .run rfl (yMove rfl) rfl rfl ?_
        refine .run rfl (yIndexS  rfl rfl S56 ((fun w hw => (OS.rowsE (f := rowI) 0 g.2 hw (.d 0 (.d 0 (.d 0 (.d 0 (.d 0 .r)))))).congr hgl fun i _ => rfl)) ((by omega))) rfl rfl ?_
        refine .run rfl (yLoad1 rfl O3 (cSl0 ((fun w hw => (OS.rowsE (f := rowI) 0 g.2 hw (.d 0 (.d 0 (.d 0 (.d 0 (.d 0 .r)))))).congr hgl fun i _ => rfl)) ((by omega)) rfl)) rfl rfl ?_
        refine .run rfl (yCall rfl (.c rfl (.c rfl (.c rfl (.c rfl .n)))) C67 (fun w hw => rplaces_any y p n ((scalesP p (knownP p)).getD i 0) true w (hm.eff0 hw) hp hn hmem)) rfl rfl ?_
        refine .run rfl (yMove rfl) rfl rfl ?_
        refine .run rfl (yEql rfl rfl) rfl rfl ?_
        refine .run rfl (yvSame (u := .agg (rowE (hullF (pf p n true) (i + 1))).toArray) (yCall rfl (.c rfl (.c rfl (.c rfl .n))) C61 (fun w hw => rhull_any (hullF (pf p n true) i) (pf p n true i) (decide ((i : Int) = 0)) w)) (by rw [hullF_succ])) rfl rfl ?_
        refine .done ?_
        refine effStep 11 [] (by kernel_rfl) closedSt (hLeft [0, 1, 5, 6, 7, 10] (by kernel_rfl) (.c (fun _ _ hs => hs.ef) (.c (fun _ _ hs => hs.ef) (.c (fun _ _ hs => hs.ef) (.c (fun _ _ hs => hs.ef) (.c (fun _ _ hs => hs.ef) (.c (fun _ _ hs => hs.ef) .n))))))) ?_
        refine .c ?_ .n
        refine effOne rfl (gNone rfl (fStoreL 4 rfl rfl rfl rfl K23 rfl (rfl))) ?_
        refine effDone closedSt (hLeft [] (by kernel_rfl) .n) (by kernel_rfl) ?_
        refine kInN ?_
        refine kThen ?_
        refine kRegion rfl ?_
        refine lV (yMove rfl) rfl rfl ?_
        refine lV (yAdd rfl rfl (by omega)) rfl rfl ?_
        refine lV (yAssign rfl) rfl rfl ?_
        refine lNil ?_
        exact kRoundX (i + 1) (by omega) (by omega) rfl (.c rfl .n) (.c rfl (.c rfl (.c rfl (.c rfl (.c rfl (.c rfl (.c rfl (.c rfl (.c rfl (.c rfl (.c rfl (.c rfl (.c rfl (.c rfl (.c rfl (.c rfl (.c rfl (.c rfl (.c rfl (.c rfl .n)))))))))))))))))))) (.c 0 rfl (.c 0 rfl (.c 0 rfl (.c 0 rfl (.c 0 rfl .r)))))
      · refine kIfF rfl ?_
        refine kExit ?_
        refine kThenX ?_
        refine kThenX ?_
        refine kInX ?_
        refine kThen ?_
        refine kSeq ?_
        refine kDrawE [(0, none), (1, some [0, 2, 3, 4])] [] [0, 1, 4] 2 hMix (by kernel_rfl) ?_
        refine .run rfl (yLoadA (vs := [_, _]) rfl A23 (cOwn 3 rfl rfl)) rfl rfl ?_
        refine .run rfl (yLoadA (vs := [_, _]) rfl A23 (cOwn 3 rfl rfl)) rfl rfl ?_
        refine .run rfl (yAssign rfl) rfl rfl ?_
        refine .done ?_
        refine effStep 2 [] (by kernel_rfl) closedSt (hLeft [0, 1] (by kernel_rfl) (.c (fun _ _ hs => hs.ef) (.c (fun _ _ hs => hs.ef.sub (.c 0 rfl (.c 1 rfl (.c 1 rfl (.c 1 rfl .n))))) .n))) ?_
        refine .c ?_ .n
        refine effOne rfl (gNone rfl (fStoreL 1 rfl rfl rfl rfl K23 rfl (rfl))) ?_
        refine effStep 3 [] (by kernel_rfl) closedSt (hLeft [1] (by kernel_rfl) (.c (fun _ _ hs => hs.ef.sub (.c 0 rfl (.c 1 rfl (.c 1 rfl (.c 1 rfl .n))))) .n)) ?_
        refine .c ?_ .n
        refine effOne rfl (gNone rfl (fStoreL 0 rfl rfl rfl rfl K23 rfl (rfl))) ?_
        refine effDone closedSt (hLeft [] (by kernel_rfl) .n) (by kernel_rfl) ?_
        refine kThen ?_
        refine kRet ?_
        refine fRet rfl (.cA (us := [_, _]) rfl A23 (cOwn 1 rfl rfl) (.cA (us := [_, _]) rfl A23 (cOwn 0 rfl rfl) (.t rfl .n))) (endRet ?_)
        obtain rfl : i = (scalesP p (knownP p)).length := by omega
        rfl
  · refine effOne rfl (opEx fun g => (gNone rfl (fV (yExtract rfl rfl) rfl))) ?_
    refine effStep 6 [] (by kernel_rfl) (closedEx fun g => closedSt) (hLeft [] (by kernel_rfl) .n) ?_
    refine .c ?_ .n
    refine effOne rfl (opEx fun g => (gNone rfl (fV (yExtract rfl rfl) rfl))) ?_
    refine effStep 8 [] (by kernel_rfl) (closedEx fun g => closedSt) (hLeft [] (by kernel_rfl) .n) ?_
    refine .c ?_ .n
    refine effOne rfl (opEx fun g => (gNone rfl (fV (yAssign rfl) rfl))) ?_
    refine effStep 9 [] (by kernel_rfl) (closedEx fun g => closedSt) (hLeft [] (by kernel_rfl) .n) ?_
    refine .c ?_ .n
    refine effOne rfl (opEx fun g => (gNone rfl (fV (yAssign rfl) rfl))) ?_
    refine effDone (closedEx fun g => closedSt) (hLeft [] (by kernel_rfl) .n) (by kernel_rfl) ?_
    refine trEx fun g => ?_
    refine kThen ?_
    refine kSeq ?_
    refine kSeq ?_
    refine kRegion rfl ?_
    refine lV (yMove rfl) rfl rfl ?_
    refine lV (yNeq rfl rfl) rfl rfl ?_
    refine knownN (t := 21) rfl (by simp) ?_
    refine lNil ?_
    refine kThen ?_
    refine kIfF rfl ?_
    refine kSkip ?_
    refine kThen ?_
    refine kSeq ?_
    refine kRegion rfl ?_
    refine lE rfl ?_
    refine eAlloc Z23 fun n9 => ?_
    refine lE rfl ?_
    refine eAlloc Z23 fun n10 => ?_
    refine lNil ?_
    refine kThen ?_
    refine kSeq ?_
    refine kSeq ?_
    refine kRegion rfl ?_
    refine lV (yAssign rfl) rfl rfl ?_
    refine lNil ?_
    refine kThen ?_
    refine kBlock ?_
    refine kLoopX (ι := Nat) (fun i => i ≤ (scalesP p (knownP p)).length) (fun i => [(11, i64 (i : Nat))]) [(0, _), (1, _), (2, _), (4, _), (5, _), (6, _), (13, _), (14, _), (15, _), (16, _), (17, _), (12, _), (19, _), (18, _), (7, _), (8, _), (20, _), (21, _), (9, _), (10, _)] (fun i => []) (fun i => ([(n9, blk (rowE (hullF (pf p n false) i)) 23), (n10, blk (rowE (hullF (pf p n true) i)) 23)] ++ osL 3 g.1)) [(n5, _), (n4, _), (n2, _)] (fun i => (scalesP p (knownP p)).length - i) 0 (Nat.zero_le _) rfl (.c rfl .n) (.c rfl (.c rfl (.c rfl (.c rfl (.c rfl (.c rfl (.c rfl (.c rfl (.c rfl (.c rfl (.c rfl (.c rfl (.c rfl (.c rfl (.c rfl (.c rfl (.c rfl (.c rfl (.c rfl (.c rfl .n)))))))))))))))))))) (.c 2 rfl (.c 2 rfl (.c 2 rfl (.c 1 rfl (.c 0 rfl .r))))) ?_
    rintro i hi
    refine kSeq ?_
    refine kSeq ?_
    have hgl : ((scalesP p (knownP p)).map rowI).length = (scalesP p (knownP p)).length := List.length_map _
    refine kRegion rfl ?_
    refine lV (yMove rfl) rfl rfl ?_
    refine lV (yMove rfl) rfl rfl ?_
    refine lV (yLen rfl S56) rfl rfl ?_
    refine lV (yLss rfl rfl) rfl rfl ?_
    refine lNil ?_
    refine kThen ?_
    refine split (t := 28) rfl (fun h28 => ?_) (fun h28 => ?_)
    · refine kIfT rfl ?_
      refine kSkip ?_
      refine kThen ?_
      refine kSeq ?_
      refine kBlock ?_
      refine kSeq ?_
      have hmem := getD_mem (l := scalesP p (knownP p)) (i := i) (by omega) 0
      refine kDrawE [(0, none), (1, none), (5, none), (6, none), (7, none), (10, none)] [] [0, 1, 2, 3, 4, 5, 6, 7, 8, 9, 10] 1 hMix (by kernel_rfl) ?_
      refine .run rfl (yLoadA (vs := [_, _]) rfl A23 (cOwn 3 rfl rfl)) rfl rfl ?_
      refine .run rfl (yLoadA (vs := [_, _, _]) rfl A26 (cOwn 2 rfl rfl)) rfl rfl ?_
      refine .run rfl (yMove rfl) rfl rfl ?_
      refine .run rfl (yMove rfl) rfl rfl ?_
      refine .run rfl (yMove rfl) rfl rfl ?_
      refine .run rfl (yIndexS  rfl rfl S56 ((fun w hw => (OS.rowsE (f := rowI) 0 g.2 hw (.d 0 (.d 0 (.d 0 (.d 0 (.d 0 .r)))))).congr hgl fun i _ => rfl)) ((by omega))) rfl rfl ?_
      refine .run rfl (yLoad1 rfl O3 (cSl0 ((fun w hw => (OS.rowsE (f := rowI) 0 g.2 hw (.d 0 (.d 0 (.d 0 (.d 0 (.d 0 .r)))))).congr hgl fun i _ => rfl)) ((by omega)) rfl)) rfl rfl ?_
      refine .run rfl (yCall rfl (.c rfl (.c rfl (.c rfl (.c rfl .n)))) C67 (fun w hw => rplaces_any y p n ((scalesP p (knownP p)).getD i 0) false w (hm.eff0 hw) hp hn hmem)) rfl rfl ?_
      refine .run rfl (yMove rfl) rfl rfl ?_
      refine .run rfl (yEql rfl rfl) rfl rfl ?_
      refine .run rfl (yvSame (u := .agg (rowE (hullF (pf p n false) (i + 1))).toArray) (yCall rfl (.c rfl (.c rfl (.c rfl .n))) C61 (fun w hw => rhull_any (hullF (pf p n false) i) (pf p n false i) (decide ((i : Int) = 0)) w)) (by rw [hullF_succ])) rfl rfl ?_
      refine .done ?_
      refine effStep 11 [] (by kernel_rfl) closedSt (hLeft [0, 1, 5, 6, 7, 10] (by kernel_rfl) (.c (fun _ _ hs => hs.ef) (.c (fun _ _ hs => hs.ef) (.c (fun _ _ hs => hs.ef) (.c (fun _ _ hs => hs.ef) (.c (fun _ _ hs => hs.ef) (.c (fun _ _ hs => hs.ef) .n))))))) ?_
      refine .c ?_ .n
      refine effOne rfl (gNone rfl (fStoreL 3 rfl rfl rfl rfl K23 rfl (rfl))) ?_
      refine effDone closedSt (hLeft [] (by kernel_rfl) .n) (by kernel_rfl) ?_
      refine kThen ?_
      refine kDrawE [(0, none), (1, none), (5, none), (6, none), (7, none), (10, none)] [] [0, 1, 2, 3, 4, 5, 6, 7, 8, 9, 10] 1 hMix (by kernel_rfl) ?_
      refine .run rfl (yLoadA (vs := [_, _]) rfl A23 (cOwn 4 rfl rfl)) rfl rfl ?_
      refine .run rfl (yLoadA (vs := [_, _, _]) rfl A26 (cOwn 2 rfl rfl)) rfl rfl ?_
      refine .run rfl (yMove rfl) rfl rfl ?_
      refine .run rfl (yMove rfl) rfl rfl ?_
      refine .run rfl (yMove rfl) rfl rfl ?_
      refine .run rfl (yIndexS  rfl rfl S56 ((fun w hw => (OS.rowsE (f := rowI) 0 g.2 hw (.d 0 (.d 0 (.d 0 (.d 0 (.d 0 .r)))))).congr hgl fun i _ => rfl)) ((by omega))) rfl rfl ?_
      refine .run rfl (yLoad1 rfl O3 (cSl0 ((fun w hw => (OS.rowsE (f := rowI) 0 g.2 hw (.d 0 (.d 0 (.d 0 (.d 0 (.d 0 .r)))))).congr hgl fun i _ => rfl)) ((by omega)) rfl)) rfl rfl ?_
      refine .run rfl (yCall rfl (.c rfl (.c rfl (.c rfl (.c rfl .n)))) C67 (fun w hw => rplaces_any y p n ((scalesP p (knownP p)).getD i 0) true w (hm.eff0 hw) hp hn hmem)) rfl rfl ?_
      refine .run rfl (yMove rfl) rfl rfl ?_
      refine .run rfl (yEql rfl rfl) rfl rfl ?_
      refine .run rfl (yvSame (u := .agg (rowE (hullF (pf p n true) (i + 1))).toArray) (yCall rfl (.c rfl (.c rfl (.c rfl .n))) C61 (fun w hw => rhull_any (hullF (pf p n true) i) (pf p n true i) (decide ((i : Int) = 0)) w)) (by rw [hullF_succ])) rfl rfl ?_
      refine .done ?_
      refine effStep 11 [] (by kernel_rfl) closedSt (hLeft [0, 1, 5, 6, 7, 10] (by kernel_rfl) (.c (fun _ _ hs => hs.ef) (.c (fun _ _ hs => hs.ef) (.c (fun _ _ hs => hs.ef) (.c (fun _ _ hs => hs.ef) (.c (fun _ _ hs => hs.ef) (.c (fun _ _ hs => hs.ef) .n))))))) ?_
      refine .c ?_ .n
      refine effOne rfl (gNone rfl (fStoreL 4 rfl rfl rfl rfl K23 rfl (rfl))) ?_
      refine effDone closedSt (hLeft [] (by kernel_rfl) .n) (by kernel_rfl) ?_
      refine kInN ?_
      refine kThen ?_
      refine kRegion rfl ?_
      refine lV (yMove rfl) rfl rfl ?_
      refine lV (yAdd rfl rfl (by omega)) rfl rfl ?_
      refine lV (yAssign rfl) rfl rfl ?_
      refine lNil ?_
      exact kRoundX (i + 1) (by omega) (by omega) rfl (.c rfl .n) (.c rfl (.c rfl (.c rfl (.c rfl (.c rfl (.c rfl (.c rfl (.c rfl (.c rfl (.c rfl (.c rfl (.c rfl (.c rfl (.c rfl (.c rfl (.c rfl (.c rfl (.c rfl (.c rfl (.c rfl .n)))))))))))))))))))) (.c 0 rfl (.c 0 rfl (.c 0 rfl (.c 0 rfl (.c 0 rfl .r)))))
    · refine kIfF rfl ?_
      refine kExit ?_
      refine kThenX ?_
      refine kThenX ?_
      refine kInX ?_
      refine kThen ?_
      refine kSeq ?_
      refine kDrawE [(0, none), (1, some [0, 2, 3, 4])] [] [0, 1, 4] 2 hMix (by kernel_rfl) ?_
      refine .run rfl (yLoadA (vs := [_, _]) rfl A23 (cOwn 3 rfl rfl)) rfl rfl ?_
      refine .run rfl (yLoadA (vs := [_, _]) rfl A23 (cOwn 3 rfl rfl)) rfl rfl ?_
      refine .run rfl (yAssign rfl) rfl rfl ?_
      refine .done ?_
      refine effStep 2 [] (by kernel_rfl) closedSt (hLeft [0, 1] (by kernel_rfl) (.c (fun _ _ hs => hs.ef) (.c (fun _ _ hs => hs.ef.sub (.c 0 rfl (.c 1 rfl (.c 1 rfl (.c 1 rfl .n))))) .n))) ?_
      refine .c ?_ .n
      refine effOne rfl (gNone rfl (fStoreL 1 rfl rfl rfl rfl K23 rfl (rfl))) ?_
      refine effStep 3 [] (by kernel_rfl) closedSt (hLeft [1] (by kernel_rfl) (.c (fun _ _ hs => hs.ef.sub (.c 0 rfl (.c 1 rfl (.c 1 rfl (.c 1 rfl .n))))) .n)) ?_
      refine .c ?_ .n
      refine effOne rfl (gNone rfl (fStoreL 0 rfl rfl rfl rfl K23 rfl (rfl))) ?_
      refine effDone closedSt (hLeft [] (by kernel_rfl) .n) (by kernel_rfl) ?_
      refine kThen ?_
      refine kRet ?_
      refine fRet rfl (.cA (us := [_, _]) rfl A23 (cOwn 1 rfl rfl) (.cA (us := [_, _]) rfl A23 (cOwn 0 rfl rfl) (.t rfl .n))) (endRet ?_)
      obtain rfl : i = (scalesP p (knownP p)).length := by omega
      rfl
theorem rstar_any (y : Option Addr × Nat) (p : Plt) (n : Int) (w : World) (hm : InP w y p) (hL : p.st.length ≤ 30) : Calls Try.prog 20 [.agg (pltC y p).toArray, i64 n].toArray w (Ret w (outC2 (starE p n))) := by
  by_cases h : toldE p (isStarB p n) = 0
  · obtain ⟨hp, hs, hk, k, rfl, hkl⟩ := star_fine h
    exact rstar_ok y p k w hm hp hkl hs hk h
  · exact rstar_bad y p n w hm hL h
end Go.Proofs.Ytlcdohhhhlhpmaa
