/-
  Walks: Poor.
-/
import Derived.Test.YtlcdohhhhlhpmaaAk
namespace Go.Proofs.Ytlcdohhhhlhpmaa
open ZW

theorem hullE_bd {l : List Int} {B : Int} (hB : 0 ≤ B) (h : ∀ x ∈ l, -B ≤ x ∧ x ≤ B) : (-B ≤ (hullE l).lo ∧ (hullE l).lo ≤ B) ∧ -B ≤ (hullE l).hi ∧ (hullE l).hi ≤ B := by
  rcases hullE_hull l with ⟨e, _⟩ | ⟨_, h1, h2, _⟩
  · rw [e]; dsimp only; omega
  · exact ⟨h _ h1, h _ h2⟩
theorem placeP_bd {d : Bool} {s : StarV} {sc c : Int} (hs : starOk s) (hsc : 0 ≤ sc ∧ sc ≤ 1000) (hc : -1099511627776 ≤ c ∧ c ≤ 1099511627776) : (-1100000000000 ≤ (placeP d s sc c).1 ∧ (placeP d s sc c).1 ≤ 1100000000000) ∧ -1100000000000 ≤ (placeP d s sc c).2 ∧ (placeP d s sc c).2 ≤ 1100000000000 := by
  have hl := long_bd (d := d) hs hsc
  unfold placeP
  split
  · rename_i hk
    have h2 := said_ok (d := d) hs hk
    unfold spanOk at h2
    dsimp only; omega
  · dsimp only; omega
theorem starH_bd {p : Plt} {n : Nat} (hp : PltOk p) (hn : n < p.st.length) (d : Bool) : (-1100000000000 ≤ (starH p n d).lo ∧ (starH p n d).lo ≤ 1100000000000) ∧ -1100000000000 ≤ (starH p n d).hi ∧ (starH p n d).hi ≤ 1100000000000 := by
  refine hullE_bd (by omega) fun x hx => ?_
  obtain ⟨s, hs, hx⟩ := List.mem_flatMap.1 hx
  have h1 := scalesP_mem.1 hs
  have hc := hp.c
  unfold spanOk at hc
  have hcb := corn_bd h1.2 d
  have h2 := placeP_bd (d := d) (hp.s _ (getD_mem hn star0)) (sc := s) (by omega) hcb.1
  have h3 := placeP_bd (d := d) (hp.s _ (getD_mem hn star0)) (sc := s) (by omega) hcb.2
  unfold starG at hx
  simp only [List.mem_cons, List.not_mem_nil, or_false] at hx
  rcases hx with rfl | rfl
  · exact h2.1
  · exact h3.2
/-- How wide the place of a star is. -/
def wideP (p : Plt) (i : Nat) : Int := (starH p i false).hi - (starH p i false).lo + (starH p i true).hi - (starH p i true).lo
def poorT (p : Plt) (n : Nat) : Int × Int := (List.range n).foldl (fun r i => if wideP p i > r.2 then ((i : Int), wideP p i) else r) (0, -1)
theorem poorT_succ (p : Plt) (n : Nat) : poorT p (n + 1) = if wideP p n > (poorT p n).2 then ((n : Int), wideP p n) else poorT p n := range_foldl_succ _ _ _
abbrev outI2 (r : Int × Int × Int) : Value := .tuple [i64 r.1, i64 r.2.1, i64 r.2.2].toArray
def poorE (p : Plt) : Int × Int × Int := if toldE p true ≠ 0 then (0, 0, toldE p true) else ((poorT p p.st.length).1, (poorT p p.st.length).2, 0)
set_option maxRecDepth 100000 in
theorem poor_bad (y : Option Addr × Nat) (p : Plt) (w : World) (hm : InP w y p) (h : toldE p true ≠ 0) : Calls Try.prog 30 [.agg (pltC y p).toArray].toArray w (Ret w (outI2 (poorE p))) := by
  refine fEnter Try.func30 rfl Try.ntmps30 rfl ?_
  refine kSeq ?_
  refine kRegion rfl ?_
  refine lE rfl ?_
  refine eBoxA rfl fun n1 => ?_
  refine lV (yAssign rfl) rfl rfl ?_
  refine lV (yAssign rfl) rfl rfl ?_
  refine lE rfl ?_
  refine eAlloc Z29 fun n4 => ?_
  refine lNil ?_
  refine kThen ?_
  refine kSeq ?_
  refine kRegion rfl ?_
  refine lV (yMakeFunc .n (.c rfl .n)) rfl rfl ?_
  refine lE rfl ?_
  refine eDefer rfl .n ?_
  refine lNil ?_
  refine kThen ?_
  refine kSeq ?_
  refine kRegion rfl ?_
  refine lV (yLoadA (vs := [_, _, _]) rfl A26 (cOwn 1 rfl rfl)) rfl rfl ?_
  refine lE rfl ?_
  refine eCallP rfl (.c rfl (.c rfl .n)) C59 (fun w hw => told_bad y p true w (hm.eff0 hw) h) ?_
  refine kThenP ?_
  refine fPanC 0 DPoor C88 rfl rfl (.t rfl (.t rfl (.c1 rfl O29 (cOwn 0 rfl rfl) .n))) (endRet ?_)
  simp only [packV, poorE, if_pos h]
set_option maxRecDepth 100000 in
set_option maxHeartbeats 2000000 in
theorem poor_ok (y : Option Addr × Nat) (p : Plt) (w : World) (hm : InP w y p) (h : toldE p true = 0) : Calls Try.prog 30 [.agg (pltC y p).toArray].toArray w (Ret w (outI2 (poorE p))) := by
  have hp := (truthE_ok (toldE_ok h).1).1
  have hpn := hp.n
  refine fEnter Try.func30 rfl Try.ntmps30 rfl ?_
  refine kSeq ?_
  refine kRegion rfl ?_
  refine lE rfl ?_
  refine eBoxA rfl fun n1 => ?_
  refine lV (yAssign rfl) rfl rfl ?_
  refine lV (yAssign rfl) rfl rfl ?_
  refine lE rfl ?_
  refine eAlloc Z29 fun n4 => ?_
  refine lNil ?_
  refine kThen ?_
  refine kSeq ?_
  refine kRegion rfl ?_
  refine lV (yMakeFunc .n (.c rfl .n)) rfl rfl ?_
  refine lE rfl ?_
  refine eDefer rfl .n ?_
  refine lNil ?_
  refine kThen ?_
  refine kSeq ?_
  refine kRegion rfl ?_
  refine lV (yLoadA (vs := [_, _, _]) rfl A26 (cOwn 1 rfl rfl)) rfl rfl ?_
  refine lE rfl ?_
  refine eCallX rfl (.c rfl (.c rfl .n)) C59 (fun w hw => told_any y p true w (hm.eff0 hw) h) fun ⟨pb, mb⟩ _ => ?_
  refine lV (yAssign rfl) rfl rfl ?_
  refine lNil ?_
  refine kThen ?_
  refine kSeq ?_
  refine kRegion rfl ?_
  refine lV (yAssign rfl) rfl rfl ?_
  refine lNil ?_
  refine kThen ?_
  refine kSeq ?_
  refine kSeq ?_
  refine kRegion rfl ?_
  refine lV (yMove rfl) rfl rfl ?_
  refine lV (yNilCheckP rfl) rfl rfl ?_
  refine lV (yFieldAddr rfl F90_0) rfl rfl ?_
  refine lV (yFieldAddr rfl F26_1) rfl rfl ?_
  refine lV (yLoad1 rfl O24 (cOwn 0 rfl rfl)) rfl rfl ?_
  refine lV (yLen rfl S24) rfl rfl ?_
  refine lV (yMove rfl) rfl rfl ?_
  refine lNil ?_
  refine kThen ?_
  refine kBlock ?_
  refine kLoopX (ι := Nat × Int × Int) (fun x => x.1 ≤ p.st.length ∧ x.2 = poorT p x.1) (fun x => [(18, i64 (x.1 : Nat)), (2, i64 x.2.1), (3, i64 x.2.2)]) [(0, _), (1, _), (4, _), (9, _), (10, _), (11, _), (5, _), (12, _), (13, _), (14, _), (15, _), (16, _), (17, _)] (fun x => []) (fun x => []) [(pb, _), (mb, _), (n4, _), (n1, _)] (fun x => p.st.length - x.1) (0, 0, -1) (⟨Nat.zero_le _, rfl⟩) rfl (.c rfl (.c rfl (.c rfl .n))) (.c rfl (.c rfl (.c rfl (.c rfl (.c rfl (.c rfl (.c rfl (.c rfl (.c rfl (.c rfl (.c rfl (.c rfl (.c rfl .n))))))))))))) (.c 0 rfl (.c 0 rfl (.c 0 rfl (.c 0 rfl .n)))) ?_
  rintro ⟨i, b, v⟩ ⟨hi, hv⟩
  dsimp only at hi hv ⊢
  refine kSeq ?_
  refine kRegion rfl ?_
  refine lV (yLss rfl rfl) rfl rfl ?_
  refine lNil ?_
  refine kThen ?_
  refine kSeq ?_
  refine split (t := 19) rfl (fun h19 => ?_) (fun h19 => ?_)
  · refine kIfT rfl ?_
    refine kSkip ?_
    refine kThen ?_
    refine kSeq ?_
    refine kBlock ?_
    refine kSeq ?_
    refine kRegion rfl ?_
    refine lV (yMove rfl) rfl rfl ?_
    refine lV (yAssign rfl) rfl rfl ?_
    refine lNil ?_
    refine kThen ?_
    refine kSeq ?_
    refine kRegion rfl ?_
    refine lV (yMove rfl) rfl rfl ?_
    refine lV (yMove rfl) rfl rfl ?_
    refine lV (yCall rfl (.c rfl (.c rfl .n)) C65 (fun w hw => starW_any pb mb i y p w (hw.blkAt 0 rfl) (hw.blkAt 1 rfl) (hm.eff0 hw) hp (by omega))) rfl rfl ?_
    refine lE rfl ?_
    refine eAlloc Z96 fun n7 => ?_
    refine lE rfl ?_
    refine eStoreL 0 rfl rfl rfl rfl K96 rfl (rfl) ?_
    refine lNil ?_
    refine kThen ?_
    refine kSeq ?_
    have hb1 := starH_bd hp (n := i) (by omega) false
    have hb2 := starH_bd hp (n := i) (by omega) true
    refine kRegion rfl ?_
    refine lV (yIndexAr rfl rfl R96 (by omega) (by omega)) rfl rfl ?_
    refine lV (yFieldAddr rfl F86_1) rfl rfl ?_
    refine lV (yLoad1 rfl O3 (cOwn 0 rfl rfl)) rfl rfl ?_
    refine lV (yIndexAr rfl rfl R96 (by omega) (by omega)) rfl rfl ?_
    refine lV (yFieldAddr rfl F86_0) rfl rfl ?_
    refine lV (yLoad1 rfl O3 (cOwn 0 rfl rfl)) rfl rfl ?_
    refine lV (ySub rfl rfl (by omega)) rfl rfl ?_
    refine lV (yIndexAr rfl rfl R96 (by omega) (by omega)) rfl rfl ?_
    refine lV (yFieldAddr rfl F86_1) rfl rfl ?_
    refine lV (yLoad1 rfl O3 (cOwn 0 rfl rfl)) rfl rfl ?_
    refine lV (yAdd rfl rfl (by omega)) rfl rfl ?_
    refine lV (yIndexAr rfl rfl R96 (by omega) (by omega)) rfl rfl ?_
    refine lV (yFieldAddr rfl F86_0) rfl rfl ?_
    refine lV (yLoad1 rfl O3 (cOwn 0 rfl rfl)) rfl rfl ?_
    refine lV (ySub rfl rfl (by omega)) rfl rfl ?_
    refine same (t := 38) (u := i64 (wideP p i)) rfl (rfl) ?_
    refine lV (yAssign rfl) rfl rfl ?_
    refine lNil ?_
    refine kThen ?_
    refine kSeq ?_
    refine kRegion rfl ?_
    refine lV (yMove rfl) rfl rfl ?_
    refine lV (yMove rfl) rfl rfl ?_
    refine lV (yGtr rfl rfl) rfl rfl ?_
    refine split (t := 41) rfl (fun h41 => ?_) (fun h41 => ?_)
    · refine lNil ?_
      refine kThen ?_
      refine kIfT rfl ?_
      refine kRegion rfl ?_
      refine lV (yMove rfl) rfl rfl ?_
      refine lV (yMove rfl) rfl rfl ?_
      refine lV (yAssign rfl) rfl rfl ?_
      refine lV (yAssign rfl) rfl rfl ?_
      refine lNil ?_
      refine kInN ?_
      refine kThen ?_
      refine kRegion rfl ?_
      refine lV (yAdd rfl rfl (by omega)) rfl rfl ?_
      refine lV (yMove rfl) rfl rfl ?_
      refine lNil ?_
      exact kRoundX (i + 1, (i : Int), wideP p i) (⟨by dsimp only; omega, by dsimp only; rw [poorT_succ, ← hv, if_pos h41]⟩) (by dsimp only; omega) rfl (.c rfl (.c rfl (.c rfl .n))) (.c rfl (.c rfl (.c rfl (.c rfl (.c rfl (.c rfl (.c rfl (.c rfl (.c rfl (.c rfl (.c rfl (.c rfl (.c rfl .n))))))))))))) (.c 1 rfl (.c 1 rfl (.c 1 rfl (.c 1 rfl .n))))
    · refine lNil ?_
      refine kThen ?_
      refine kIfF rfl ?_
      refine kSkip ?_
      refine kInN ?_
      refine kThen ?_
      refine kRegion rfl ?_
      refine lV (yAdd rfl rfl (by omega)) rfl rfl ?_
      refine lV (yMove rfl) rfl rfl ?_
      refine lNil ?_
      exact kRoundX (i + 1, b, v) (⟨by dsimp only; omega, by dsimp only; rw [poorT_succ, ← hv, if_neg h41]⟩) (by dsimp only; omega) rfl (.c rfl (.c rfl (.c rfl .n))) (.c rfl (.c rfl (.c rfl (.c rfl (.c rfl (.c rfl (.c rfl (.c rfl (.c rfl (.c rfl (.c rfl (.c rfl (.c rfl .n))))))))))))) (.c 1 rfl (.c 1 rfl (.c 1 rfl (.c 1 rfl .n))))
  · refine kIfF rfl ?_
    refine kExit ?_
    refine kThenX ?_
    refine kThenX ?_
    refine kInX ?_
    refine kThen ?_
    refine kSeq ?_
    refine kRegion rfl ?_
    refine lV (yMove rfl) rfl rfl ?_
    refine lV (yMove rfl) rfl rfl ?_
    refine lV (yAssign rfl) rfl rfl ?_
    refine lV (yAssign rfl) rfl rfl ?_
    refine lE rfl ?_
    refine eStoreL 2 rfl rfl rfl rfl K29 rfl (rfl) ?_
    refine lNil ?_
    refine kThen ?_
    refine kRet ?_
    refine fRetC DPoor C88 rfl (.t rfl (.t rfl (.c1 rfl O29 (cOwn 2 rfl rfl) .n))) (endRet ?_)
    obtain rfl : i = p.st.length := by omega
    simp only [packV, poorE, if_neg (not_not_intro h), ← hv]
theorem poor_any (y : Option Addr × Nat) (p : Plt) (w : World) (hm : InP w y p) : Calls Try.prog 30 [.agg (pltC y p).toArray].toArray w (Ret w (outI2 (poorE p))) := by
  by_cases h : toldE p true = 0
  · exact poor_ok y p w hm h
  · exact poor_bad y p w hm h
end Go.Proofs.Ytlcdohhhhlhpmaa
