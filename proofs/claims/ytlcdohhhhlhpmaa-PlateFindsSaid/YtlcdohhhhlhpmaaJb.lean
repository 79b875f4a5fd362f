/-
  Walks: the document's scales.
-/
import Derived.Test.YtlcdohhhhlhpmaaJa
namespace Go.Proofs.Ytlcdohhhhlhpmaa
open ZW

set_option maxRecDepth 100000 in
set_option maxHeartbeats 2000000 in
theorem rwith_any (y : Option Addr × Nat) (p : Plt) (set : Nat) (sc : Int) (w : World) (hst : InP w y p) (hp : PltOk p) (hsc : 0 ≤ sc ∧ sc ≤ 1000) (hset : setOk p set) :
    Calls Try.prog 116 [.agg (pltC y p).toArray, i64 (set : Nat), i64 sc].toArray w (Ret w (.bool (okAt p set sc))) := by
  refine fEnter Try.func116 rfl Try.ntmps116 rfl ?_
  refine kSeq ?_
  refine kRegion rfl ?_
  refine lE rfl ?_
  refine eBoxA rfl fun n3 => ?_
  refine lV (yAssign rfl) rfl rfl ?_
  refine lNil ?_
  refine kThen ?_
  refine kSeq ?_
  refine kDrawE [(0, none), (3, none), (4, none), (7, none)] [] [0, 1, 2, 3, 4, 5, 6, 7] 4 hMix (by kernel_rfl) ?_
  refine .run rfl (yLoadA (vs := [_, _, _]) rfl A26 (cOwn 0 rfl rfl)) rfl rfl ?_
  refine .run rfl (yMove rfl) rfl rfl ?_
  refine .run rfl (yMove rfl) rfl rfl ?_
  refine .run rfl (yCall rfl (.c rfl (.c rfl (.c rfl (.c rfl .n)))) C62 (fun w hw => rcorner_any y p false sc set w (hst.eff0 hw) hp hsc hset)) rfl rfl ?_
  refine .run rfl (yLoadA (vs := [_, _, _]) rfl A26 (cOwn 0 rfl rfl)) rfl rfl ?_
  refine .run rfl (yMove rfl) rfl rfl ?_
  refine .run rfl (yMove rfl) rfl rfl ?_
  refine .run rfl (yCall rfl (.c rfl (.c rfl (.c rfl (.c rfl .n)))) C62 (fun w hw => rcorner_any y p true sc set w (hst.eff0 hw) hp hsc hset)) rfl rfl ?_
  refine .done ?_
  refine effStep 8 [9] (by kernel_rfl) closedSt (hLeft [0, 3, 4, 7] (by kernel_rfl) (.c (fun _ _ hs => hs.ef) (.c (fun _ _ hs => hs.ef) (.c (fun _ _ hs => hs.ef) (.c (fun _ _ hs => hs.ef) .n))))) ?_
  refine (.c ?_ (.c ?_ .n))
  · refine effOne rfl (gNone rfl (fAlloc Z23)) ?_
    refine effStep 9 [] (by kernel_rfl) (closedEx fun n7 => closedSt) (hLeft [0, 3, 4, 7] (by kernel_rfl) (.c (fun _ _ ⟨n7, hs⟩ => hs.ef.sub (.c 1 rfl .n)) (.c (fun _ _ ⟨n7, hs⟩ => hs.ef.sub (.c 1 rfl .n)) (.c (fun _ _ ⟨n7, hs⟩ => hs.ef.sub (.c 1 rfl .n)) (.c (fun _ _ ⟨n7, hs⟩ => hs.ef.sub (.c 1 rfl .n)) .n))))) ?_
    refine .c ?_ .n
    refine effOne rfl (opEx fun n7 => (gNone rfl (fAlloc Z23))) ?_
    refine effStep 10 [] (by kernel_rfl) (closedEx fun n7 => (closedEx fun n8 => closedSt)) (hLeft [0, 3, 4, 7] (by kernel_rfl) (.c (fun _ _ ⟨n7, ⟨n8, hs⟩⟩ => hs.ef.sub (.c 2 rfl .n)) (.c (fun _ _ ⟨n7, ⟨n8, hs⟩⟩ => hs.ef.sub (.c 2 rfl .n)) (.c (fun _ _ ⟨n7, ⟨n8, hs⟩⟩ => hs.ef.sub (.c 2 rfl .n)) (.c (fun _ _ ⟨n7, ⟨n8, hs⟩⟩ => hs.ef.sub (.c 2 rfl .n)) .n))))) ?_
    refine .c ?_ .n
    refine effOne rfl (opEx fun n7 => (opEx fun n8 => (gNone rfl (fStoreL 1 rfl rfl rfl rfl K23 rfl (rfl))))) ?_
    refine effStep 11 [] (by kernel_rfl) (closedEx fun n7 => (closedEx fun n8 => closedSt)) (hLeft [] (by kernel_rfl) .n) ?_
    refine .c ?_ .n
    refine effOne rfl (opEx fun n7 => (opEx fun n8 => (gNone rfl (fStoreL 0 rfl rfl rfl rfl K23 rfl (rfl))))) ?_
    refine effDone (closedEx fun n7 => (closedEx fun n8 => closedSt)) (hLeft [] (by kernel_rfl) .n) (by kernel_rfl) ?_
    refine trEx fun n7 => ?_
    refine trEx fun n8 => ?_
    refine kThen ?_
    refine kSeq ?_
    refine kRegion rfl ?_
    refine lV (yFieldAddr rfl F23_0) rfl rfl ?_
    refine lV (yLoad1 rfl O3 (cOwn 1 rfl rfl)) rfl rfl ?_
    refine lV (yFieldAddr rfl F23_1) rfl rfl ?_
    refine lV (yLoad1 rfl O3 (cOwn 1 rfl rfl)) rfl rfl ?_
    refine lV (yLeq rfl rfl) rfl rfl ?_
    refine split (t := 21) rfl (fun h21 => ?_) (fun h21 => ?_)
    · refine lV (yMove rfl) rfl rfl ?_
      refine lGY rfl rfl rfl (oV (yFieldAddr rfl F23_0) rfl ?_)
      refine lGY rfl rfl rfl (oV (yLoad1 rfl O3 (cOwn 0 rfl rfl)) rfl ?_)
      refine lGY rfl rfl rfl (oV (yFieldAddr rfl F23_1) rfl ?_)
      refine lGY rfl rfl rfl (oV (yLoad1 rfl O3 (cOwn 0 rfl rfl)) rfl ?_)
      refine lGY rfl rfl rfl (oV (yLeq rfl rfl) rfl ?_)
      refine lV (yPickT rfl rfl) rfl rfl ?_
      refine lV (yAssign rfl) rfl rfl ?_
      refine lNil ?_
      refine kThen ?_
      refine kRet ?_
      refine fRet rfl (.t rfl .n) (endRet ?_)
      unfold okAt; rw [decide_eq_true h21, Bool.true_and]; rfl
    · refine lV (yMove rfl) rfl rfl ?_
      refine lGN rfl rfl rfl rfl rfl ?_
      refine lGN rfl rfl rfl rfl rfl ?_
      refine lGN rfl rfl rfl rfl rfl ?_
      refine lGN rfl rfl rfl rfl rfl ?_
      refine lGN rfl rfl rfl rfl rfl ?_
      refine lV (yPickF rfl rfl) rfl rfl ?_
      refine lV (yAssign rfl) rfl rfl ?_
      refine lNil ?_
      refine kThen ?_
      refine kRet ?_
      refine fRet rfl (.t rfl .n) (endRet ?_)
      unfold okAt; rw [decide_eq_false h21, Bool.false_and]; rfl
  · refine effOne rfl (gNone rfl (fAlloc Z23)) ?_
    refine effStep 8 [] (by kernel_rfl) (closedEx fun n8 => closedSt) (hLeft [0, 3, 4, 7] (by kernel_rfl) (.c (fun _ _ ⟨n8, hs⟩ => hs.ef.sub (.c 1 rfl .n)) (.c (fun _ _ ⟨n8, hs⟩ => hs.ef.sub (.c 1 rfl .n)) (.c (fun _ _ ⟨n8, hs⟩ => hs.ef.sub (.c 1 rfl .n)) (.c (fun _ _ ⟨n8, hs⟩ => hs.ef.sub (.c 1 rfl .n)) .n))))) ?_
    refine .c ?_ .n
    refine effOne rfl (opEx fun n8 => (gNone rfl (fAlloc Z23))) ?_
    refine effStep 10 [] (by kernel_rfl) (closedEx fun n8 => (closedEx fun n7 => closedSt)) (hLeft [0, 3, 4, 7] (by kernel_rfl) (.c (fun _ _ ⟨n8, ⟨n7, hs⟩⟩ => hs.ef.sub (.c 2 rfl .n)) (.c (fun _ _ ⟨n8, ⟨n7, hs⟩⟩ => hs.ef.sub (.c 2 rfl .n)) (.c (fun _ _ ⟨n8, ⟨n7, hs⟩⟩ => hs.ef.sub (.c 2 rfl .n)) (.c (fun _ _ ⟨n8, ⟨n7, hs⟩⟩ => hs.ef.sub (.c 2 rfl .n)) .n))))) ?_
    refine .c ?_ .n
    refine effOne rfl (opEx fun n8 => (opEx fun n7 => (gNone rfl (fStoreL 0 rfl rfl rfl rfl K23 rfl (rfl))))) ?_
    refine effStep 11 [] (by kernel_rfl) (closedEx fun n8 => (closedEx fun n7 => closedSt)) (hLeft [] (by kernel_rfl) .n) ?_
    refine .c ?_ .n
    refine effOne rfl (opEx fun n8 => (opEx fun n7 => (gNone rfl (fStoreL 1 rfl rfl rfl rfl K23 rfl (rfl))))) ?_
    refine effDone (closedEx fun n8 => (closedEx fun n7 => closedSt)) (hLeft [] (by kernel_rfl) .n) (by kernel_rfl) ?_
    refine trEx fun n8 => ?_
    refine trEx fun n7 => ?_
    refine kThen ?_
    refine kSeq ?_
    refine kRegion rfl ?_
    refine lV (yFieldAddr rfl F23_0) rfl rfl ?_
    refine lV (yLoad1 rfl O3 (cOwn 0 rfl rfl)) rfl rfl ?_
    refine lV (yFieldAddr rfl F23_1) rfl rfl ?_
    refine lV (yLoad1 rfl O3 (cOwn 0 rfl rfl)) rfl rfl ?_
    refine lV (yLeq rfl rfl) rfl rfl ?_
    refine split (t := 21) rfl (fun h21 => ?_) (fun h21 => ?_)
    · refine lV (yMove rfl) rfl rfl ?_
      refine lGY rfl rfl rfl (oV (yFieldAddr rfl F23_0) rfl ?_)
      refine lGY rfl rfl rfl (oV (yLoad1 rfl O3 (cOwn 1 rfl rfl)) rfl ?_)
      refine lGY rfl rfl rfl (oV (yFieldAddr rfl F23_1) rfl ?_)
      refine lGY rfl rfl rfl (oV (yLoad1 rfl O3 (cOwn 1 rfl rfl)) rfl ?_)
      refine lGY rfl rfl rfl (oV (yLeq rfl rfl) rfl ?_)
      refine lV (yPickT rfl rfl) rfl rfl ?_
      refine lV (yAssign rfl) rfl rfl ?_
      refine lNil ?_
      refine kThen ?_
      refine kRet ?_
      refine fRet rfl (.t rfl .n) (endRet ?_)
      unfold okAt; rw [decide_eq_true h21, Bool.true_and]; rfl
    · refine lV (yMove rfl) rfl rfl ?_
      refine lGN rfl rfl rfl rfl rfl ?_
      refine lGN rfl rfl rfl rfl rfl ?_
      refine lGN rfl rfl rfl rfl rfl ?_
      refine lGN rfl rfl rfl rfl rfl ?_
      refine lGN rfl rfl rfl rfl rfl ?_
      refine lV (yPickF rfl rfl) rfl rfl ?_
      refine lV (yAssign rfl) rfl rfl ?_
      refine lNil ?_
      refine kThen ?_
      refine kRet ?_
      refine fRet rfl (.t rfl .n) (endRet ?_)
      unfold okAt; rw [decide_eq_false h21, Bool.false_and]; rfl
def scT (p : Plt) (set n : Nat) : List Int := (filS p set n).map fun (j : Nat) => p.sc.1 + (j : Int)
theorem scT_succ (p : Plt) (set n : Nat) : scT p set (n + 1) = scT p set n ++ if okAt p set (p.sc.1 + (n : Nat)) = true then [p.sc.1 + (n : Nat)] else [] := by
  unfold scT
  rw [filS_succ, List.map_append]
  split <;> rfl
theorem scT_len (p : Plt) (set : Nat) : ∀ n, (scT p set n).length ≤ n
  | 0 => by simp [scT, filS]
  | n + 1 => by
    have := scT_len p set n
    rw [scT_succ, List.length_append]
    split
    · simp; omega
    · simp; omega
theorem rowsI_len (l : List Int) : ∀ x ∈ l.map rowI, x.length = 1 := by
  intro x hx; obtain ⟨y, _, rfl⟩ := List.mem_map.1 hx; rfl
theorem rowsI_one (l : List Int) : ∀ x ∈ l.map rowI, ∀ u ∈ x, u.oneCell' = true := by
  intro x hx u hu; obtain ⟨y, _, rfl⟩ := List.mem_map.1 hx
  simp only [rowI, List.mem_cons, List.not_mem_nil, or_false] at hu
  rcases hu with rfl; rfl
set_option maxRecDepth 100000 in
set_option maxHeartbeats 4000000 in
theorem rscales_any (y : Option Addr × Nat) (p : Plt) (set : Nat) (w : World) (hst : InP w y p) (hp : PltOk p) (hset : setOk p set) :
    Calls Try.prog 85 [.agg (pltC y p).toArray, i64 (set : Nat)].toArray w
      (RetX w (fun g : Own => OS 1 g ((scalesP p set).map rowI)) (fun g => osV g ((scalesP p set).map rowI).length) (fun _ => []) (fun g => osL 3 g)) := by
  have hc := hp.c
  unfold spanOk at hc
  have hn : (nSc p : Int) = p.sc.2 - p.sc.1 + 1 := by unfold nSc; omega
  refine fEnter Try.func85 rfl Try.ntmps85 rfl ?_
  refine kSeq ?_
  refine kRegion rfl ?_
  refine lE rfl ?_
  refine eBoxA rfl fun n2 => ?_
  refine lV (yAssign rfl) rfl rfl ?_
  refine lNil ?_
  refine kThen ?_
  refine kSeq ?_
  refine kRegion rfl ?_
  refine lV (yAssign rfl) rfl rfl ?_
  refine lNil ?_
  refine kThen ?_
  refine kSeq ?_
  refine kSeq ?_
  refine kRegion rfl ?_
  refine lV (yFieldAddr rfl F26_0) rfl rfl ?_
  refine lV (yFieldAddr rfl F23_0) rfl rfl ?_
  refine lV (yLoad1 rfl O3 (cOwn 0 rfl rfl)) rfl rfl ?_
  refine lV (yAssign rfl) rfl rfl ?_
  refine lNil ?_
  refine kThen ?_
  refine kBlock ?_
  refine kLoopX (ι := Nat × Own) (fun x => x.1 ≤ nSc p ∧ OS 1 x.2 ((scT p set x.1).map rowI)) (fun x => [(6, i64 (p.sc.1 + (x.1 : Nat))), (5, osV x.2 ((scT p set x.1).map rowI).length)]) [(0, _), (1, _), (2, _), (4, _), (7, _), (8, _), (9, _)] (fun x => []) (fun x => osL 3 x.2) [(n2, _)] (fun x => nSc p - x.1) (0, .e none) (⟨Nat.zero_le _, OS.empty⟩) rfl (.c (by show some (i64 _) = _; congr 2; simp) (.c rfl .n)) (.c rfl (.c rfl (.c rfl (.c rfl (.c rfl (.c rfl (.c rfl .n))))))) .r ?_
  rintro ⟨j, g⟩ ⟨hj, hg⟩
  dsimp only at hj hg ⊢
  refine kSeq ?_
  refine kSeq ?_
  refine kRegion rfl ?_
  refine lV (yMove rfl) rfl rfl ?_
  refine lV (yFieldAddr rfl F26_0) rfl rfl ?_
  refine lV (yFieldAddr rfl F23_1) rfl rfl ?_
  refine lV (yLoad1 rfl O3 (cOwn 0 rfl rfl)) rfl rfl ?_
  refine lV (yLeq rfl rfl) rfl rfl ?_
  refine lNil ?_
  refine kThen ?_
  refine split (t := 14) rfl (fun h14 => ?_) (fun h14 => ?_)
  · refine kIfT rfl ?_
    refine kSkip ?_
    refine kThen ?_
    refine kSeq ?_
    refine kBlock ?_
    refine kSeq ?_
    refine kRegion rfl ?_
    refine lV (yLoadA (vs := [_, _, _]) rfl A26 (cOwn 0 rfl rfl)) rfl rfl ?_
    refine lV (yMove rfl) rfl rfl ?_
    refine lV (yMove rfl) rfl rfl ?_
    refine lV (yCall rfl (.c rfl (.c rfl (.c rfl .n))) C116 (fun w hw => rwith_any y p set (p.sc.1 + (j : Nat)) w (hst.eff0 hw) hp (by omega) hset)) rfl rfl ?_
    refine splitB (t := 20) rfl (fun h20 => ?_) (fun h20 => ?_)
    · refine lNil ?_
      refine kThen ?_
      refine kIfT rfl ?_
      have hl := scT_len p set j
      refine kRegion rfl ?_
      refine lV (yMove rfl) rfl rfl ?_
      refine lV (yMove rfl) rfl rfl ?_
      refine lE rfl ?_
      refine eBuildSlice (.c rfl .n) (fun w => BS56_1_0 w) fun n23 => ?_
      refine lE rfl ?_
      skip
      refine eAppend (gs := g) [(n23, _), (n2, _)] [rowI (p.sc.1 + (j : Nat))] AP56 rfl rfl (.c 0 rfl (.c 0 rfl .r)) hg rfl (rowsI_len [_]) (SlN.own 0 rfl rfl) (rowsI_one [_]) (by simp; omega) (by simp; omega) fun h1 hh1 => ?_
      obtain ⟨h, hh⟩ : ∃ h : {g // OS 1 g ((scT p set j).map rowI ++ [rowI (p.sc.1 + (j : Nat))])}, h.1 = h1 := ⟨⟨h1, hh1⟩, rfl⟩
      subst hh
      refine lV (yAssign rfl) rfl rfl ?_
      refine lNil ?_
      refine kInN ?_
      refine kThen ?_
      refine kRegion rfl ?_
      refine lV (yMove rfl) rfl rfl ?_
      refine lV (yAdd rfl rfl (by omega)) rfl rfl ?_
      refine lV (yAssign rfl) rfl rfl ?_
      refine lNil ?_
      exact kRoundX (j + 1, h.1) (⟨by dsimp only; omega, by dsimp only; rw [scT_succ, if_pos h20, List.map_append]; exact h.2⟩) (by dsimp only; omega) rfl (.c (by show some (i64 _) = _; congr 2; push_cast; omega) (.c (by first | (rw [scT_succ, if_pos h20, List.map_append]; rfl) | (rw [scT_succ, if_neg (by rw [h20]; decide), List.append_nil]; rfl)) .n)) (.c rfl (.c rfl (.c rfl (.c rfl (.c rfl (.c rfl (.c rfl .n))))))) (.c 1 rfl (.d 0 .r))
    · refine lNil ?_
      refine kThen ?_
      refine kIfF rfl ?_
      refine kSkip ?_
      refine kInN ?_
      refine kThen ?_
      refine kRegion rfl ?_
      refine lV (yMove rfl) rfl rfl ?_
      refine lV (yAdd rfl rfl (by omega)) rfl rfl ?_
      refine lV (yAssign rfl) rfl rfl ?_
      refine lNil ?_
      exact kRoundX (j + 1, g) (⟨by dsimp only; omega, by dsimp only; rw [scT_succ, if_neg (by rw [h20]; decide), List.append_nil]; exact hg⟩) (by dsimp only; omega) rfl (.c (by show some (i64 _) = _; congr 2; push_cast; omega) (.c (by first | (rw [scT_succ, if_pos h20, List.map_append]; rfl) | (rw [scT_succ, if_neg (by rw [h20]; decide), List.append_nil]; rfl)) .n)) (.c rfl (.c rfl (.c rfl (.c rfl (.c rfl (.c rfl (.c rfl .n))))))) (.c 0 rfl .r)
  · refine kIfF rfl ?_
    refine kExit ?_
    refine kThenX ?_
    refine kThenX ?_
    refine kInX ?_
    refine kThen ?_
    refine kSeq ?_
    refine kRegion rfl ?_
    refine lV (yMove rfl) rfl rfl ?_
    refine lV (yAssign rfl) rfl rfl ?_
    refine lNil ?_
    refine kThen ?_
    refine kRet ?_
    refine fRet rfl (.t rfl .n) ?_
    obtain rfl : j = nSc p := by omega
    exact endX g hg rfl rfl (.d 0 .r)
end Go.Proofs.Ytlcdohhhhlhpmaa
