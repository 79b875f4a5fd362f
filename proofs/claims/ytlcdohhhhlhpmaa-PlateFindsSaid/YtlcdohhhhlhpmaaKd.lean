/-
  Walks: the star that is known least exactly, as the document says.
-/
import Derived.Test.YtlcdohhhhlhpmaaKc
namespace Go.Proofs.Ytlcdohhhhlhpmaa
open ZW

theorem poorT_bd {p : Plt} (hp : PltOk p) : ∀ n, n ≤ p.st.length → (0 ≤ (poorT p n).1 ∧ (poorT p n).1 ≤ n) ∧ -5000000000000 ≤ (poorT p n).2 ∧ (poorT p n).2 ≤ 5000000000000
  | 0, _ => by
    have e : poorT p 0 = (0, -1) := rfl
    rw [e]
    dsimp only
    omega
  | n + 1, hn => by
    have ih := poorT_bd hp n (by omega)
    have h1 := starH_bd hp (show n < p.st.length by omega) false
    have h2 := starH_bd hp (show n < p.st.length by omega) true
    rw [poorT_succ]
    split
    · dsimp only
      unfold wideP
      omega
    · omega
set_option maxRecDepth 100000 in
set_option maxHeartbeats 4000000 in
theorem rpoor_bad (y : Option Addr × Nat) (p : Plt) (w : World) (hm : InP w y p) (hL : p.st.length ≤ 30) (h : toldE p true ≠ 0) : Calls Try.prog 31 [.agg (pltC y p).toArray].toArray w (Ret w (outI2 (poorE p))) := by
  have e : poorE p = (0, 0, toldE p true) := by unfold poorE; rw [if_pos h]
  rw [e]
  refine fEnter Try.func31 rfl Try.ntmps31 rfl ?_
  refine kSeq ?_
  refine kRegion rfl ?_
  refine lE rfl ?_
  refine eBoxA rfl fun n1 => ?_
  refine lV (yAssign rfl) rfl rfl ?_
  refine lV (yAssign rfl) rfl rfl ?_
  refine lV (yAssign rfl) rfl rfl ?_
  refine lNil ?_
  refine kThen ?_
  refine kSeq ?_
  refine kRegion rfl ?_
  refine lV (yLoadA (vs := [_, _, _]) rfl A26 (cOwn 0 rfl rfl)) rfl rfl ?_
  refine lV (yCall rfl (.c rfl (.c rfl .n)) C60 (fun w hw => rdoubt_bad y p true w (hm.eff0 hw) hL h)) rfl rfl ?_
  refine lV (yMove rfl) rfl rfl ?_
  refine lV (yExtract rfl rfl) rfl rfl ?_
  refine lV (yExtract rfl rfl) rfl rfl ?_
  refine lV (yAssign rfl) rfl rfl ?_
  refine lV (yAssign rfl) rfl rfl ?_
  refine lNil ?_
  refine kThen ?_
  refine kSeq ?_
  refine kSeq ?_
  refine kRegion rfl ?_
  refine lV (yMove rfl) rfl rfl ?_
  refine lV (yNeq rfl rfl) rfl rfl ?_
  refine known (t := 20) rfl (h) ?_
  refine lNil ?_
  refine kThen ?_
  refine kIfT rfl ?_
  refine kSeq ?_
  refine kRegion rfl ?_
  refine lV (yMove rfl) rfl rfl ?_
  refine lV (yAssign rfl) rfl rfl ?_
  refine lV (yAssign rfl) rfl rfl ?_
  refine lV (yAssign rfl) rfl rfl ?_
  refine lNil ?_
  refine kThen ?_
  refine kRet ?_
  refine kThenR ?_
  refine fRet rfl (.t rfl (.t rfl (.t rfl .n))) (endRet ?_)
  rfl
set_option maxRecDepth 100000 in
set_option maxHeartbeats 4000000 in
theorem rpoor_ok (y : Option Addr × Nat) (p : Plt) (w : World) (hm : InP w y p) (h : toldE p true = 0) : Calls Try.prog 31 [.agg (pltC y p).toArray].toArray w (Ret w (outI2 (poorE p))) := by
  obtain ⟨ht, hk⟩ := toldE_ok h
  obtain ⟨hp, _, hs⟩ := truthE_ok ht
  have hl := hp.n
  have e : poorE p = ((poorT p p.st.length).1, (poorT p p.st.length).2, 0) := by unfold poorE; rw [if_neg (not_not_intro h)]
  rw [e]
  refine fEnter Try.func31 rfl Try.ntmps31 rfl ?_
  refine kSeq ?_
  refine kRegion rfl ?_
  refine lE rfl ?_
  refine eBoxA rfl fun n1 => ?_
  refine lV (yAssign rfl) rfl rfl ?_
  refine lV (yAssign rfl) rfl rfl ?_
  refine lV (yAssign rfl) rfl rfl ?_
  refine lNil ?_
  refine kThen ?_
  refine kSeq ?_
  refine kRegion rfl ?_
  refine lV (yLoadA (vs := [_, _, _]) rfl A26 (cOwn 0 rfl rfl)) rfl rfl ?_
  refine lE rfl ?_
  refine eCallO rfl (.c rfl (.c rfl .n)) C60 (fun w hw => rdoubt_ok y p w (hm.eff0 hw) hp hs hk) fun g hg => ?_
  refine lV (yMove rfl) rfl rfl ?_
  refine lV (yExtract rfl rfl) rfl rfl ?_
  refine lV (yExtract rfl rfl) rfl rfl ?_
  refine lV (yAssign rfl) rfl rfl ?_
  refine lV (yAssign rfl) rfl rfl ?_
  refine lNil ?_
  refine kThen ?_
  refine kSeq ?_
  refine kSeq ?_
  refine kRegion rfl ?_
  refine lV (yMove rfl) rfl rfl ?_
  refine lV (yNeq rfl rfl) rfl rfl ?_
  refine knownN (t := 20) rfl (by simp) ?_
  refine lNil ?_
  refine kThen ?_
  refine kIfF rfl ?_
  refine kSkip ?_
  refine kThen ?_
  refine kSeq ?_
  refine kRegion rfl ?_
  refine lV (yAssign rfl) rfl rfl ?_
  refine lV (yAssign rfl) rfl rfl ?_
  refine lNil ?_
  refine kThen ?_
  refine kSeq ?_
  refine kSeq ?_
  refine kRegion rfl ?_
  refine lV (yAssign rfl) rfl rfl ?_
  refine lNil ?_
  refine kThen ?_
  refine kBlock ?_
  refine kLoopX (ι := Nat) (fun i => i ≤ p.st.length) (fun i => [(9, i64 (i : Nat)), (7, i64 (poorT p i).1), (8, i64 (poorT p i).2)]) [(0, _), (1, _), (2, _), (3, _), (4, _), (15, _), (16, _), (14, _), (17, _), (18, _), (5, _), (6, _), (19, _), (20, _)] (fun i => []) (fun i => osL 3 g) [(n1, _)] (fun i => p.st.length - i) 0 (Nat.zero_le _) rfl (.c rfl (.c rfl (.c rfl .n))) (.c rfl (.c rfl (.c rfl (.c rfl (.c rfl (.c rfl (.c rfl (.c rfl (.c rfl (.c rfl (.c rfl (.c rfl (.c rfl (.c rfl .n)))))))))))))) (.c 0 rfl .r) ?_
  rintro i hi
  refine kSeq ?_
  refine kSeq ?_
  refine kRegion rfl ?_
  refine lV (yMove rfl) rfl rfl ?_
  refine lV (yFieldAddr rfl F26_1) rfl rfl ?_
  refine lV (yLoad1 rfl O24 (cOwn 0 rfl rfl)) rfl rfl ?_
  refine lV (yLen rfl S24) rfl rfl ?_
  refine lV (yLss rfl rfl) rfl rfl ?_
  refine lNil ?_
  refine kThen ?_
  refine split (t := 26) rfl (fun h26 => ?_) (fun h26 => ?_)
  · refine kIfT rfl ?_
    refine kSkip ?_
    refine kThen ?_
    refine kSeq ?_
    refine kBlock ?_
    refine kSeq ?_
    have hil : i < p.st.length := by omega
    have hb : isStarB p (i : Nat) = true := decide_eq_true (by omega)
    have es := star_eq (p := p) (n := i) (by rw [hb]; exact h)
    have b1 := starH_bd hp hil false
    have b2 := starH_bd hp hil true
    refine kRegion rfl ?_
    refine lV (yLoadA (vs := [_, _, _]) rfl A26 (cOwn 0 rfl rfl)) rfl rfl ?_
    refine lV (yMove rfl) rfl rfl ?_
    refine lV (yCall rfl (.c rfl (.c rfl .n)) C20 (fun w hw => rstar_any y p (i : Nat) w (hm.eff0 hw) (by omega))) rfl rfl ?_
    refine same (t := 32) (u := .tuple [.agg [i64 (starH p i false).lo, i64 (starH p i false).hi].toArray, .agg [i64 (starH p i true).lo, i64 (starH p i true).hi].toArray, i64 0].toArray) rfl (by rw [es]) ?_
    refine lV (yMove rfl) rfl rfl ?_
    refine lV (yExtract rfl rfl) rfl rfl ?_
    refine lV (yExtract rfl rfl) rfl rfl ?_
    refine lV (yExtract rfl rfl) rfl rfl ?_
    refine lE rfl ?_
    refine eAlloc Z23 fun n10 => ?_
    refine lE rfl ?_
    refine eAlloc Z23 fun n11 => ?_
    refine lE rfl ?_
    refine eStoreL 1 rfl rfl rfl rfl K23 rfl (rfl) ?_
    refine lE rfl ?_
    refine eStoreL 0 rfl rfl rfl rfl K23 rfl (rfl) ?_
    refine lV (yAssign rfl) rfl rfl ?_
    refine lNil ?_
    refine kThen ?_
    refine kSeq ?_
    refine kRegion rfl ?_
    refine lV (yFieldAddr rfl F23_1) rfl rfl ?_
    refine lV (yLoad1 rfl O3 (cOwn 1 rfl rfl)) rfl rfl ?_
    refine lV (yFieldAddr rfl F23_0) rfl rfl ?_
    refine lV (yLoad1 rfl O3 (cOwn 1 rfl rfl)) rfl rfl ?_
    refine lV (ySub rfl rfl (by omega)) rfl rfl ?_
    refine lV (yFieldAddr rfl F23_1) rfl rfl ?_
    refine lV (yLoad1 rfl O3 (cOwn 0 rfl rfl)) rfl rfl ?_
    refine lV (yAdd rfl rfl (by omega)) rfl rfl ?_
    refine lV (yFieldAddr rfl F23_0) rfl rfl ?_
    refine lV (yLoad1 rfl O3 (cOwn 0 rfl rfl)) rfl rfl ?_
    refine lV (ySub rfl rfl (by omega)) rfl rfl ?_
    refine same (t := 46) (u := i64 (wideP p i)) rfl (rfl) ?_
    refine lV (yAssign rfl) rfl rfl ?_
    refine lNil ?_
    refine kThen ?_
    refine kSeq ?_
    refine kRegion rfl ?_
    refine lV (yMove rfl) rfl rfl ?_
    refine lV (yMove rfl) rfl rfl ?_
    refine lV (yGtr rfl rfl) rfl rfl ?_
    refine split (t := 49) rfl (fun h49 => ?_) (fun h49 => ?_)
    · refine lNil ?_
      refine kThen ?_
      refine kIfT rfl ?_
      refine kRegion rfl ?_
      refine lV (yMove rfl) rfl rfl ?_
      refine lV (yMove rfl) rfl rfl ?_
      refine lV (yAssign rfl) rfl rfl ?_
      refine lV (yAssign rfl) rfl rfl ?_
      refine lNil ?_
      refine kInN ?_
      refine kThen ?_
      refine kRegion rfl ?_
      refine lV (yMove rfl) rfl rfl ?_
      refine lV (yAdd rfl rfl (by omega)) rfl rfl ?_
      refine lV (yAssign rfl) rfl rfl ?_
      refine lNil ?_
      exact kRoundX (i + 1) (by omega) (by omega) rfl (.c rfl (.c (by show some (i64 _) = _; first | (rw [poorT_succ, if_pos h49] <;> rfl) | (rw [poorT_succ, if_neg h49] <;> rfl)) (.c (by show some (i64 _) = _; first | (rw [poorT_succ, if_pos h49] <;> rfl) | (rw [poorT_succ, if_neg h49] <;> rfl)) .n))) (.c rfl (.c rfl (.c rfl (.c rfl (.c rfl (.c rfl (.c rfl (.c rfl (.c rfl (.c rfl (.c rfl (.c rfl (.c rfl (.c rfl .n)))))))))))))) (.c 2 rfl (.d 0 (.d 0 .r)))
    · refine lNil ?_
      refine kThen ?_
      refine kIfF rfl ?_
      refine kSkip ?_
      refine kInN ?_
      refine kThen ?_
      refine kRegion rfl ?_
      refine lV (yMove rfl) rfl rfl ?_
      refine lV (yAdd rfl rfl (by omega)) rfl rfl ?_
      refine lV (yAssign rfl) rfl rfl ?_
      refine lNil ?_
      exact kRoundX (i + 1) (by omega) (by omega) rfl (.c rfl (.c (by show some (i64 _) = _; first | (rw [poorT_succ, if_pos h49] <;> rfl) | (rw [poorT_succ, if_neg h49] <;> rfl)) (.c (by show some (i64 _) = _; first | (rw [poorT_succ, if_pos h49] <;> rfl) | (rw [poorT_succ, if_neg h49] <;> rfl)) .n))) (.c rfl (.c rfl (.c rfl (.c rfl (.c rfl (.c rfl (.c rfl (.c rfl (.c rfl (.c rfl (.c rfl (.c rfl (.c rfl (.c rfl .n)))))))))))))) (.c 2 rfl (.d 0 (.d 0 .r)))
  · refine kIfF rfl ?_
    refine kExit ?_
    refine kThenX ?_
    refine kThenX ?_
    refine kInX ?_
    refine kThen ?_
    refine kSeq ?_
    refine kRegion rfl ?_
    refine lV (yMove rfl) rfl rfl ?_
    refine lV (yMove rfl) rfl rfl ?_
    refine lV (yAssign rfl) rfl rfl ?_
    refine lV (yAssign rfl) rfl rfl ?_
    refine lV (yAssign rfl) rfl rfl ?_
    refine lNil ?_
    refine kThen ?_
    refine kRet ?_
    refine fRet rfl (.t rfl (.t rfl (.t rfl .n))) (endRet ?_)
    obtain rfl : i = p.st.length := by omega
    rfl
theorem rpoor_any (y : Option Addr × Nat) (p : Plt) (w : World) (hm : InP w y p) (hL : p.st.length ≤ 30) : Calls Try.prog 31 [.agg (pltC y p).toArray].toArray w (Ret w (outI2 (poorE p))) := by
  by_cases h : toldE p true = 0
  · exact rpoor_ok y p w hm h
  · exact rpoor_bad y p w hm hL h
end Go.Proofs.Ytlcdohhhhlhpmaa
