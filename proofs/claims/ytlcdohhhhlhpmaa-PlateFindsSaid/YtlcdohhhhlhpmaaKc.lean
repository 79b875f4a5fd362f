/-
  Walks: the fewest stars that must be wrong, and the star that is known least exactly, as the document says.
-/
import Derived.Test.YtlcdohhhhlhpmaaKb
namespace Go.Proofs.Ytlcdohhhhlhpmaa
open ZW

set_option maxRecDepth 100000 in
set_option maxHeartbeats 4000000 in
theorem rdrop_bad (y : Option Addr × Nat) (p : Plt) (w : World) (hm : InP w y p) (hL : p.st.length ≤ 30) (hp : ¬ PltOk p) : Calls Try.prog 29 [.agg (pltC y p).toArray].toArray w (Ret w (outI (dropE p))) := by
  have e : dropE p = (0, 1) := by unfold dropE; rw [if_pos hp]
  rw [e]
  refine fEnter Try.func29 rfl Try.ntmps29 rfl ?_
  refine kSeq ?_
  refine kRegion rfl ?_
  refine lE rfl ?_
  refine eBoxA rfl fun n1 => ?_
  refine lV (yAssign rfl) rfl rfl ?_
  refine lV (yAssign rfl) rfl rfl ?_
  refine lNil ?_
  refine kThen ?_
  refine kSeq ?_
  refine kSeq ?_
  refine kRegion rfl ?_
  refine lV (yLoadA (vs := [_, _, _]) rfl A26 (cOwn 0 rfl rfl)) rfl rfl ?_
  refine lV (yCall rfl (.c rfl .n) C23 (fun w hw => rplate_any y p w (hm.eff0 hw) (by omega))) rfl rfl ?_
  refine knownB (t := 7) (c := false) rfl (decide_eq_false hp) ?_
  refine lV (yNot rfl) rfl rfl ?_
  refine lNil ?_
  refine kThen ?_
  refine kIfT rfl ?_
  refine kSeq ?_
  refine kRegion rfl ?_
  refine lV (yAssign rfl) rfl rfl ?_
  refine lV (yAssign rfl) rfl rfl ?_
  refine lNil ?_
  refine kThen ?_
  refine kRet ?_
  refine kThenR ?_
  refine fRet rfl (.t rfl (.t rfl .n)) (endRet ?_)
  rfl
set_option maxRecDepth 100000 in
set_option maxHeartbeats 8000000 in
theorem rdrop_ok (y : Option Addr × Nat) (p : Plt) (w : World) (hm : InP w y p) (hp : PltOk p) : Calls Try.prog 29 [.agg (pltC y p).toArray].toArray w (Ret w (outI (dropE p))) := by
  have hl := hp.n
  have hlt := setOk_lt (known_ok p) hl
  have hpw : 2 ^ p.st.length ≤ 2 ^ 10 := Nat.pow_le_pow_right (by omega) hl
  have hp0 : 0 < 2 ^ p.st.length := Nat.two_pow_pos _
  refine fEnter Try.func29 rfl Try.ntmps29 rfl ?_
  refine kSeq ?_
  refine kRegion rfl ?_
  refine lE rfl ?_
  refine eBoxA rfl fun n1 => ?_
  refine lV (yAssign rfl) rfl rfl ?_
  refine lV (yAssign rfl) rfl rfl ?_
  refine lNil ?_
  refine kThen ?_
  refine kSeq ?_
  refine kSeq ?_
  refine kRegion rfl ?_
  refine lV (yLoadA (vs := [_, _, _]) rfl A26 (cOwn 0 rfl rfl)) rfl rfl ?_
  refine lV (yCall rfl (.c rfl .n) C23 (fun w hw => rplate_any y p w (hm.eff0 hw) (by omega))) rfl rfl ?_
  refine knownB (t := 7) (c := true) rfl (decide_eq_true hp) ?_
  refine lV (yNot rfl) rfl rfl ?_
  refine lNil ?_
  refine kThen ?_
  refine kIfF rfl ?_
  refine kSkip ?_
  refine kThen ?_
  refine kSeq ?_
  refine kRegion rfl ?_
  refine lV (yLoadA (vs := [_, _, _]) rfl A26 (cOwn 0 rfl rfl)) rfl rfl ?_
  refine lV (yCall rfl (.c rfl .n) C38 (fun w hw => rknown_any y p w (hm.eff0 hw) (by omega))) rfl rfl ?_
  refine lV (yAssign rfl) rfl rfl ?_
  refine lNil ?_
  refine kThen ?_
  refine kSeq ?_
  refine kSeq ?_
  refine kRegion rfl ?_
  refine lV (yAssign rfl) rfl rfl ?_
  refine lNil ?_
  refine kThen ?_
  refine kBlock ?_
  refine kLoopX (ι := Nat × Nat) (fun x => x.1 ≤ 2 ^ p.st.length ∧ BestD (fun x => scalesP p (less (knownP p) x) ≠ []) (knownP p) x.2 x.1 ∧ x.2 < 1024) (fun x => [(5, i64 (x.1 : Nat)), (4, i64 (x.2 : Nat))]) [(0, _), (1, _), (2, _), (3, _), (6, _), (7, _), (8, _), (9, _), (10, _)] (fun x => []) (fun x => []) [(n1, _)] (fun x => 2 ^ p.st.length - x.1) (0, knownP p) (⟨Nat.zero_le _, ⟨.inl rfl, fun x hxt => absurd hxt (by omega)⟩, hlt⟩) rfl (.c rfl (.c rfl .n)) (.c rfl (.c rfl (.c rfl (.c rfl (.c rfl (.c rfl (.c rfl (.c rfl (.c rfl .n))))))))) (.c 0 rfl .n) ?_
  rintro ⟨t, b⟩ ⟨ht, hb, hb4⟩
  dsimp only at ht hb hb4 ⊢
  refine kSeq ?_
  refine kSeq ?_
  refine kRegion rfl ?_
  refine lV (yMove rfl) rfl rfl ?_
  refine lV (yFieldAddr rfl F26_1) rfl rfl ?_
  refine lV (yLoad1 rfl O24 (cOwn 0 rfl rfl)) rfl rfl ?_
  refine lV (yLen rfl S24) rfl rfl ?_
  refine lV (yCall rfl (.c rfl .n) C84 (fun w hw => power_any p.st.length w (by omega))) rfl rfl ?_
  refine lV (yLss rfl rfl) rfl rfl ?_
  refine lNil ?_
  refine kThen ?_
  refine split (t := 16) rfl (fun h16 => ?_) (fun h16 => ?_)
  · refine kIfT rfl ?_
    refine kSkip ?_
    refine kThen ?_
    refine kSeq ?_
    refine kBlock ?_
    refine kSeq ?_
    by_cases h24 : ((t &&& knownP p : Nat) : Int) = (t : Nat)
    · by_cases h30 : ((popc t : Nat) : Int) < (popc b : Nat)
      · have ht4 : t < 1024 := by omega
        have hand : t &&& knownP p < 1024 := Nat.lt_of_le_of_lt Nat.and_le_left ht4
        have hiff : ((t &&& knownP p : Nat) : Int) = (t : Nat) ↔ subS t (knownP p) := by rw [← and_sub]; omega
        have hsc : (0 : Int) < (((scalesP p (less (knownP p) t)).map rowI).length : Int) ↔ scalesP p (less (knownP p) t) ≠ [] := by rw [List.length_map, ← List.length_pos_iff]; omega
        have hst := hb.step hlt
        have hla : subS t (knownP p) → less (knownP p) t + t = knownP p := less_add 10 (knownP p) t hlt
        refine kDrawE [(1, none), (2, none), (8, none), (10, none), (14, none), (15, none), (16, none)] [] [0, 1, 2, 3, 4, 5, 6, 7, 8, 9, 10, 11, 12, 13, 14, 15, 16, 17, 18] 4 hMix (by kernel_rfl) ?_
        refine .run rfl (yMove rfl) rfl rfl ?_
        refine .run rfl (yLoadA (vs := [_, _, _]) rfl A26 (cOwn 0 rfl rfl)) rfl rfl ?_
        refine .run rfl (yCall rfl (.c rfl .n) C38 (fun w hw => rknown_any y p w (hm.eff0 hw) (by omega))) rfl rfl ?_
        refine .run rfl (yAnd rfl rfl rfl (by omega) (by omega)) rfl rfl ?_
        refine .run rfl (yMove rfl) rfl rfl ?_
        refine .run rfl (yvTrue (yEql rfl rfl) (h24)) rfl rfl ?_
        refine .run rfl (yMove rfl) rfl rfl ?_
        refine .runG rfl (yMove rfl) rfl rfl rfl rfl ?_
        refine .runG rfl (yCall rfl (.c rfl .n) C43 (fun w hw => size_any t w (by omega))) rfl rfl rfl rfl ?_
        refine .runG rfl (yMove rfl) rfl rfl rfl rfl ?_
        refine .runG rfl (yCall rfl (.c rfl .n) C43 (fun w hw => size_any b w (by omega))) rfl rfl rfl rfl ?_
        refine .runG rfl (yvTrue (yLss rfl rfl) (h30)) rfl rfl rfl rfl ?_
        refine .run rfl (yPickT rfl rfl) rfl rfl ?_
        refine .run rfl (yMove rfl) rfl rfl ?_
        refine .runG rfl (yLoadA (vs := [_, _, _]) rfl A26 (cOwn 0 rfl rfl)) rfl rfl rfl rfl ?_
        refine .runG rfl (yLoadA (vs := [_, _, _]) rfl A26 (cOwn 0 rfl rfl)) rfl rfl rfl rfl ?_
        refine .runG rfl (yCall rfl (.c rfl .n) C38 (fun w hw => rknown_any y p w (hm.eff0 hw) (by omega))) rfl rfl rfl rfl ?_
        refine .runG rfl (yMove rfl) rfl rfl rfl rfl ?_
        refine .runG rfl (yvSame (u := i64 ((less (knownP p) t : Nat) : Int)) (ySub rfl rfl (by omega)) (by have := hla (hiff.1 h24); congr 1; omega)) rfl rfl rfl rfl ?_
        refine .done ?_
        refine effStep 19 [] (by kernel_rfl) closedSt (hLeft [1, 2, 8, 10, 14, 15, 16] (by kernel_rfl) (.c (fun _ _ hs => hs.ef) (.c (fun _ _ hs => hs.ef) (.c (fun _ _ hs => hs.ef) (.c (fun _ _ hs => hs.ef) (.c (fun _ _ hs => hs.ef) (.c (fun _ _ hs => hs.ef) (.c (fun _ _ hs => hs.ef) .n)))))))) ?_
        refine .c ?_ .n
        refine effOne rfl (gYes rfl rfl rfl (fCallO rfl (.c rfl (.c rfl .n)) C85 (fun w hw => rscales_any y p (less (knownP p) t) w (hm.eff0 hw) hp (less_ok p t)))) ?_
        refine effStep 20 [] (by kernel_rfl) (closedEx fun g => closedSt) (hLeft [1, 2] (by kernel_rfl) (.c (fun _ _ ⟨g, hs⟩ => hs.ef.sub (.c 0 rfl .n)) (.c (fun _ _ ⟨g, hs⟩ => hs.ef.sub (.c 0 rfl .n)) .n))) ?_
        refine .c ?_ .n
        refine effOne rfl (opEx fun g => (gYes rfl rfl rfl (fV (yLen rfl S56) rfl))) ?_
        refine effStep 21 [] (by kernel_rfl) (closedEx fun g => closedSt) (hLeft [1, 2] (by kernel_rfl) (.c (fun _ _ ⟨g, hs⟩ => hs.ef.sub (.c 0 rfl .n)) (.c (fun _ _ ⟨g, hs⟩ => hs.ef.sub (.c 0 rfl .n)) .n))) ?_
        refine .c ?_ .n
        refine effOne rfl (opEx fun g => (gYes rfl rfl rfl (fV (yGtr rfl rfl) rfl))) ?_
        refine effStep 22 [] (by kernel_rfl) (closedEx fun g => closedSt) (hLeft [1, 2] (by kernel_rfl) (.c (fun _ _ ⟨g, hs⟩ => hs.ef.sub (.c 0 rfl .n)) (.c (fun _ _ ⟨g, hs⟩ => hs.ef.sub (.c 0 rfl .n)) .n))) ?_
        refine .c ?_ .n
        refine effOne rfl (opEx fun g => (gNone rfl (fV (yPickT rfl rfl) rfl))) ?_
        refine effDone (closedEx fun g => closedSt) (hLeft [1, 2] (by kernel_rfl) (.c (fun _ _ ⟨g, hs⟩ => hs.ef.sub (.c 0 rfl .n)) (.c (fun _ _ ⟨g, hs⟩ => hs.ef.sub (.c 0 rfl .n)) .n))) (by kernel_rfl) ?_
        refine trEx fun g => ?_
        refine kThen ?_
        refine split (t := 41) rfl (fun h41 => ?_) (fun h41 => ?_)
        · refine kIfT rfl ?_
          refine kRegion rfl ?_
          refine lV (yMove rfl) rfl rfl ?_
          refine lV (yAssign rfl) rfl rfl ?_
          refine lNil ?_
          refine kInN ?_
          refine kThen ?_
          refine kRegion rfl ?_
          refine lV (yMove rfl) rfl rfl ?_
          refine lV (yAdd rfl rfl (by omega)) rfl rfl ?_
          refine lV (yAssign rfl) rfl rfl ?_
          refine lNil ?_
          exact kRoundX (t + 1, t) (⟨by dsimp only; omega, hst.1 ⟨hiff.1 h24, by omega, hsc.1 h41⟩, by dsimp only; omega⟩) (by dsimp only; omega) rfl (.c rfl (.c rfl .n)) (.c rfl (.c rfl (.c rfl (.c rfl (.c rfl (.c rfl (.c rfl (.c rfl (.c rfl .n))))))))) (.c 0 rfl .n)
        · refine kIfF rfl ?_
          refine kSkip ?_
          refine kInN ?_
          refine kThen ?_
          refine kRegion rfl ?_
          refine lV (yMove rfl) rfl rfl ?_
          refine lV (yAdd rfl rfl (by omega)) rfl rfl ?_
          refine lV (yAssign rfl) rfl rfl ?_
          refine lNil ?_
          exact kRoundX (t + 1, b) (⟨by dsimp only; omega, hst.2 fun h => h41 (hsc.2 h.2.2), by dsimp only; omega⟩) (by dsimp only; omega) rfl (.c rfl (.c rfl .n)) (.c rfl (.c rfl (.c rfl (.c rfl (.c rfl (.c rfl (.c rfl (.c rfl (.c rfl .n))))))))) (.c 0 rfl .n)
      · have ht4 : t < 1024 := by omega
        have hand : t &&& knownP p < 1024 := Nat.lt_of_le_of_lt Nat.and_le_left ht4
        have hiff : ((t &&& knownP p : Nat) : Int) = (t : Nat) ↔ subS t (knownP p) := by rw [← and_sub]; omega
        have hsc : (0 : Int) < (((scalesP p (less (knownP p) t)).map rowI).length : Int) ↔ scalesP p (less (knownP p) t) ≠ [] := by rw [List.length_map, ← List.length_pos_iff]; omega
        have hst := hb.step hlt
        have hla : subS t (knownP p) → less (knownP p) t + t = knownP p := less_add 10 (knownP p) t hlt
        refine kDrawE [(1, none), (2, none), (8, none), (10, none)] [] [0, 1, 2, 3, 4, 5, 6, 7, 8, 9, 10, 11, 12, 13, 14, 15, 16, 17, 18] 4 hMix (by kernel_rfl) ?_
        refine .run rfl (yMove rfl) rfl rfl ?_
        refine .run rfl (yLoadA (vs := [_, _, _]) rfl A26 (cOwn 0 rfl rfl)) rfl rfl ?_
        refine .run rfl (yCall rfl (.c rfl .n) C38 (fun w hw => rknown_any y p w (hm.eff0 hw) (by omega))) rfl rfl ?_
        refine .run rfl (yAnd rfl rfl rfl (by omega) (by omega)) rfl rfl ?_
        refine .run rfl (yMove rfl) rfl rfl ?_
        refine .run rfl (yvTrue (yEql rfl rfl) (h24)) rfl rfl ?_
        refine .run rfl (yMove rfl) rfl rfl ?_
        refine .runG rfl (yMove rfl) rfl rfl rfl rfl ?_
        refine .runG rfl (yCall rfl (.c rfl .n) C43 (fun w hw => size_any t w (by omega))) rfl rfl rfl rfl ?_
        refine .runG rfl (yMove rfl) rfl rfl rfl rfl ?_
        refine .runG rfl (yCall rfl (.c rfl .n) C43 (fun w hw => size_any b w (by omega))) rfl rfl rfl rfl ?_
        refine .runG rfl (yvFalse (yLss rfl rfl) (h30)) rfl rfl rfl rfl ?_
        refine .run rfl (yPickT rfl rfl) rfl rfl ?_
        refine .run rfl (yMove rfl) rfl rfl ?_
        refine .skip rfl rfl rfl rfl rfl rfl ?_
        refine .skip rfl rfl rfl rfl rfl rfl ?_
        refine .skip rfl rfl rfl rfl rfl rfl ?_
        refine .skip rfl rfl rfl rfl rfl rfl ?_
        refine .skip rfl rfl rfl rfl rfl rfl ?_
        refine .done ?_
        refine effStep 19 [] (by kernel_rfl) closedSt (hLeft [1, 2, 8, 10] (by kernel_rfl) (.c (fun _ _ hs => hs.ef) (.c (fun _ _ hs => hs.ef) (.c (fun _ _ hs => hs.ef) (.c (fun _ _ hs => hs.ef) .n))))) ?_
        refine .c ?_ .n
        refine effOne rfl (gNo rfl rfl rfl rfl rfl) ?_
        refine effStep 20 [] (by kernel_rfl) closedSt (hLeft [1, 2] (by kernel_rfl) (.c (fun _ _ hs => hs.ef) (.c (fun _ _ hs => hs.ef) .n))) ?_
        refine .c ?_ .n
        refine effOne rfl (gNo rfl rfl rfl rfl rfl) ?_
        refine effStep 21 [] (by kernel_rfl) closedSt (hLeft [1, 2] (by kernel_rfl) (.c (fun _ _ hs => hs.ef) (.c (fun _ _ hs => hs.ef) .n))) ?_
        refine .c ?_ .n
        refine effOne rfl (gNo rfl rfl rfl rfl rfl) ?_
        refine effStep 22 [] (by kernel_rfl) closedSt (hLeft [1, 2] (by kernel_rfl) (.c (fun _ _ hs => hs.ef) (.c (fun _ _ hs => hs.ef) .n))) ?_
        refine .c ?_ .n
        refine effOne rfl (gNone rfl (fV (yPickF rfl rfl) rfl)) ?_
        refine effDone closedSt (hLeft [1, 2] (by kernel_rfl) (.c (fun _ _ hs => hs.ef) (.c (fun _ _ hs => hs.ef) .n))) (by kernel_rfl) ?_
        refine kThen ?_
        refine kIfF rfl ?_
        refine kSkip ?_
        refine kInN ?_
        refine kThen ?_
        refine kRegion rfl ?_
        refine lV (yMove rfl) rfl rfl ?_
        refine lV (yAdd rfl rfl (by omega)) rfl rfl ?_
        refine lV (yAssign rfl) rfl rfl ?_
        refine lNil ?_
        exact kRoundX (t + 1, b) (⟨by dsimp only; omega, hst.2 fun h => h30 (by have := h.2.1; omega), by dsimp only; omega⟩) (by dsimp only; omega) rfl (.c rfl (.c rfl .n)) (.c rfl (.c rfl (.c rfl (.c rfl (.c rfl (.c rfl (.c rfl (.c rfl (.c rfl .n))))))))) (.c 0 rfl .n)
    · by_cases h30 : ((popc t : Nat) : Int) < (popc b : Nat)
      · have ht4 : t < 1024 := by omega
        have hand : t &&& knownP p < 1024 := Nat.lt_of_le_of_lt Nat.and_le_left ht4
        have hiff : ((t &&& knownP p : Nat) : Int) = (t : Nat) ↔ subS t (knownP p) := by rw [← and_sub]; omega
        have hsc : (0 : Int) < (((scalesP p (less (knownP p) t)).map rowI).length : Int) ↔ scalesP p (less (knownP p) t) ≠ [] := by rw [List.length_map, ← List.length_pos_iff]; omega
        have hst := hb.step hlt
        have hla : subS t (knownP p) → less (knownP p) t + t = knownP p := less_add 10 (knownP p) t hlt
        refine kDrawE [(1, none), (2, none)] [] [0, 1, 2, 3, 4, 5, 6, 7, 8, 9, 10, 11, 12, 13, 14, 15, 16, 17, 18] 4 hMix (by kernel_rfl) ?_
        refine .run rfl (yMove rfl) rfl rfl ?_
        refine .run rfl (yLoadA (vs := [_, _, _]) rfl A26 (cOwn 0 rfl rfl)) rfl rfl ?_
        refine .run rfl (yCall rfl (.c rfl .n) C38 (fun w hw => rknown_any y p w (hm.eff0 hw) (by omega))) rfl rfl ?_
        refine .run rfl (yAnd rfl rfl rfl (by omega) (by omega)) rfl rfl ?_
        refine .run rfl (yMove rfl) rfl rfl ?_
        refine .run rfl (yvFalse (yEql rfl rfl) (h24)) rfl rfl ?_
        refine .run rfl (yMove rfl) rfl rfl ?_
        refine .skip rfl rfl rfl rfl rfl rfl ?_
        refine .skip rfl rfl rfl rfl rfl rfl ?_
        refine .skip rfl rfl rfl rfl rfl rfl ?_
        refine .skip rfl rfl rfl rfl rfl rfl ?_
        refine .skip rfl rfl rfl rfl rfl rfl ?_
        refine .run rfl (yPickF rfl rfl) rfl rfl ?_
        refine .run rfl (yMove rfl) rfl rfl ?_
        refine .skip rfl rfl rfl rfl rfl rfl ?_
        refine .skip rfl rfl rfl rfl rfl rfl ?_
        refine .skip rfl rfl rfl rfl rfl rfl ?_
        refine .skip rfl rfl rfl rfl rfl rfl ?_
        refine .skip rfl rfl rfl rfl rfl rfl ?_
        refine .done ?_
        refine effStep 19 [] (by kernel_rfl) closedSt (hLeft [1, 2] (by kernel_rfl) (.c (fun _ _ hs => hs.ef) (.c (fun _ _ hs => hs.ef) .n))) ?_
        refine .c ?_ .n
        refine effOne rfl (gNo rfl rfl rfl rfl rfl) ?_
        refine effStep 20 [] (by kernel_rfl) closedSt (hLeft [1, 2] (by kernel_rfl) (.c (fun _ _ hs => hs.ef) (.c (fun _ _ hs => hs.ef) .n))) ?_
        refine .c ?_ .n
        refine effOne rfl (gNo rfl rfl rfl rfl rfl) ?_
        refine effStep 21 [] (by kernel_rfl) closedSt (hLeft [1, 2] (by kernel_rfl) (.c (fun _ _ hs => hs.ef) (.c (fun _ _ hs => hs.ef) .n))) ?_
        refine .c ?_ .n
        refine effOne rfl (gNo rfl rfl rfl rfl rfl) ?_
        refine effStep 22 [] (by kernel_rfl) closedSt (hLeft [1, 2] (by kernel_rfl) (.c (fun _ _ hs => hs.ef) (.c (fun _ _ hs => hs.ef) .n))) ?_
        refine .c ?_ .n
        refine effOne rfl (gNone rfl (fV (yPickF rfl rfl) rfl)) ?_
        refine effDone closedSt (hLeft [1, 2] (by kernel_rfl) (.c (fun _ _ hs => hs.ef) (.c (fun _ _ hs => hs.ef) .n))) (by kernel_rfl) ?_
        refine kThen ?_
        refine kIfF rfl ?_
        refine kSkip ?_
        refine kInN ?_
        refine kThen ?_
        refine kRegion rfl ?_
        refine lV (yMove rfl) rfl rfl ?_
        refine lV (yAdd rfl rfl (by omega)) rfl rfl ?_
        refine lV (yAssign rfl) rfl rfl ?_
        refine lNil ?_
        exact kRoundX (t + 1, b) (⟨by dsimp only; omega, hst.2 fun h => h24 (hiff.2 h.1), by dsimp only; omega⟩) (by dsimp only; omega) rfl (.c rfl (.c rfl .n)) (.c rfl (.c rfl (.c rfl (.c rfl (.c rfl (.c rfl (.c rfl (.c rfl (.c rfl .n))))))))) (.c 0 rfl .n)
      · have ht4 : t < 1024 := by omega
        have hand : t &&& knownP p < 1024 := Nat.lt_of_le_of_lt Nat.and_le_left ht4
        have hiff : ((t &&& knownP p : Nat) : Int) = (t : Nat) ↔ subS t (knownP p) := by rw [← and_sub]; omega
        have hsc : (0 : Int) < (((scalesP p (less (knownP p) t)).map rowI).length : Int) ↔ scalesP p (less (knownP p) t) ≠ [] := by rw [List.length_map, ← List.length_pos_iff]; omega
        have hst := hb.step hlt
        have hla : subS t (knownP p) → less (knownP p) t + t = knownP p := less_add 10 (knownP p) t hlt
        refine kDrawE [(1, none), (2, none)] [] [0, 1, 2, 3, 4, 5, 6, 7, 8, 9, 10, 11, 12, 13, 14, 15, 16, 17, 18] 4 hMix (by kernel_rfl) ?_
        refine .run rfl (yMove rfl) rfl rfl ?_
        refine .run rfl (yLoadA (vs := [_, _, _]) rfl A26 (cOwn 0 rfl rfl)) rfl rfl ?_
        refine .run rfl (yCall rfl (.c rfl .n) C38 (fun w hw => rknown_any y p w (hm.eff0 hw) (by omega))) rfl rfl ?_
        refine .run rfl (yAnd rfl rfl rfl (by omega) (by omega)) rfl rfl ?_
        refine .run rfl (yMove rfl) rfl rfl ?_
        refine .run rfl (yvFalse (yEql rfl rfl) (h24)) rfl rfl ?_
        refine .run rfl (yMove rfl) rfl rfl ?_
        refine .skip rfl rfl rfl rfl rfl rfl ?_
        refine .skip rfl rfl rfl rfl rfl rfl ?_
        refine .skip rfl rfl rfl rfl rfl rfl ?_
        refine .skip rfl rfl rfl rfl rfl rfl ?_
        refine .skip rfl rfl rfl rfl rfl rfl ?_
        refine .run rfl (yPickF rfl rfl) rfl rfl ?_
        refine .run rfl (yMove rfl) rfl rfl ?_
        refine .skip rfl rfl rfl rfl rfl rfl ?_
        refine .skip rfl rfl rfl rfl rfl rfl ?_
        refine .skip rfl rfl rfl rfl rfl rfl ?_
        refine .skip rfl rfl rfl rfl rfl rfl ?_
        refine .skip rfl rfl rfl rfl rfl rfl ?_
        refine .done ?_
        refine effStep 19 [] (by kernel_rfl) closedSt (hLeft [1, 2] (by kernel_rfl) (.c (fun _ _ hs => hs.ef) (.c (fun _ _ hs => hs.ef) .n))) ?_
        refine .c ?_ .n
        refine effOne rfl (gNo rfl rfl rfl rfl rfl) ?_
        refine effStep 20 [] (by kernel_rfl) closedSt (hLeft [1, 2] (by kernel_rfl) (.c (fun _ _ hs => hs.ef) (.c (fun _ _ hs => hs.ef) .n))) ?_
        refine .c ?_ .n
        refine effOne rfl (gNo rfl rfl rfl rfl rfl) ?_
        refine effStep 21 [] (by kernel_rfl) closedSt (hLeft [1, 2] (by kernel_rfl) (.c (fun _ _ hs => hs.ef) (.c (fun _ _ hs => hs.ef) .n))) ?_
        refine .c ?_ .n
        refine effOne rfl (gNo rfl rfl rfl rfl rfl) ?_
        refine effStep 22 [] (by kernel_rfl) closedSt (hLeft [1, 2] (by kernel_rfl) (.c (fun _ _ hs => hs.ef) (.c (fun _ _ hs => hs.ef) .n))) ?_
        refine .c ?_ .n
        refine effOne rfl (gNone rfl (fV (yPickF rfl rfl) rfl)) ?_
        refine effDone closedSt (hLeft [1, 2] (by kernel_rfl) (.c (fun _ _ hs => hs.ef) (.c (fun _ _ hs => hs.ef) .n))) (by kernel_rfl) ?_
        refine kThen ?_
        refine kIfF rfl ?_
        refine kSkip ?_
        refine kInN ?_
        refine kThen ?_
        refine kRegion rfl ?_
        refine lV (yMove rfl) rfl rfl ?_
        refine lV (yAdd rfl rfl (by omega)) rfl rfl ?_
        refine lV (yAssign rfl) rfl rfl ?_
        refine lNil ?_
        exact kRoundX (t + 1, b) (⟨by dsimp only; omega, hst.2 fun h => h24 (hiff.2 h.1), by dsimp only; omega⟩) (by dsimp only; omega) rfl (.c rfl (.c rfl .n)) (.c rfl (.c rfl (.c rfl (.c rfl (.c rfl (.c rfl (.c rfl (.c rfl (.c rfl .n))))))))) (.c 0 rfl .n)
  · refine kIfF rfl ?_
    refine kExit ?_
    refine kThenX ?_
    refine kThenX ?_
    refine kInX ?_
    refine kThen ?_
    refine kSeq ?_
    refine kRegion rfl ?_
    refine lV (yMove rfl) rfl rfl ?_
    refine lV (yAssign rfl) rfl rfl ?_
    refine lV (yAssign rfl) rfl rfl ?_
    refine lNil ?_
    refine kThen ?_
    refine kRet ?_
    refine fRet rfl (.t rfl (.t rfl .n)) (endRet ?_)
    obtain rfl : t = 2 ^ p.st.length := by omega
    rw [drop_best hp hb]
    rfl
theorem rdrop_any (y : Option Addr × Nat) (p : Plt) (w : World) (hm : InP w y p) (hL : p.st.length ≤ 30) : Calls Try.prog 29 [.agg (pltC y p).toArray].toArray w (Ret w (outI (dropE p))) := by
  by_cases hp : PltOk p
  · exact rdrop_ok y p w hm hp
  · exact rdrop_bad y p w hm hL hp
end Go.Proofs.Ytlcdohhhhlhpmaa
