/-
  Walks: the scales that can be.
-/
import Derived.Test.YtlcdohhhhlhpmaaAe
namespace Go.Proofs.Ytlcdohhhhlhpmaa
open ZW

/-- Can the stars of a set be right with a scale? -/
def okAt (p : Plt) (set : Nat) (sc : Int) : Bool := decide ((cornP p false sc set).1 ≤ (cornP p false sc set).2) && decide ((cornP p true sc set).1 ≤ (cornP p true sc set).2)
/-- The first so many scales that can be, as numbers from the least one on. -/
def filS (p : Plt) (set n : Nat) : List Nat := (List.range n).filter fun j => okAt p set (p.sc.1 + (j : Nat))
def nSc (p : Plt) : Nat := (p.sc.2 - p.sc.1 + 1).toNat
/-- The scales that can be. -/
def scalesP (p : Plt) (set : Nat) : List Int := (filS p set (nSc p)).map fun (j : Nat) => p.sc.1 + (j : Int)
theorem filS_succ (p : Plt) (set n : Nat) : filS p set (n + 1) = filS p set n ++ if okAt p set (p.sc.1 + (n : Nat)) = true then [n] else [] := by
  unfold filS
  rw [List.range_succ, List.filter_append]
  congr 1
  by_cases h : okAt p set (p.sc.1 + (n : Nat)) = true
  · rw [if_pos h, List.filter_cons_of_pos (by simpa using h)]; rfl
  · rw [if_neg h, List.filter_cons_of_neg (by simpa using h)]; rfl
theorem filS_get (p : Plt) (set j : Nat) (hj : okAt p set (p.sc.1 + (j : Nat)) = true) : ∀ n, j < n → (filS p set n)[(filS p set j).length]? = some j
  | 0, h => absurd h (by omega)
  | n + 1, h => by
    rw [filS_succ]
    by_cases h1 : j < n
    · have ih := filS_get p set j hj n h1
      have hl := (List.getElem?_eq_some_iff.1 ih).1
      rw [List.getElem?_append_left hl]; exact ih
    · obtain rfl : j = n := by omega
      rw [if_pos hj, List.getElem?_append_right (Nat.le_refl _), Nat.sub_self]; rfl
theorem filS_len (p : Plt) (set j : Nat) (hj : okAt p set (p.sc.1 + (j : Nat)) = true) {n : Nat} (h : j < n) : (filS p set j).length < (filS p set n).length := (List.getElem?_eq_some_iff.1 (filS_get p set j hj n h)).1
/-- Both corners. -/
abbrev cornC (p : Plt) (set : Nat) (sc : Int) : List Value := [i64 (cornP p false sc set).1, i64 (cornP p false sc set).2, i64 (cornP p true sc set).1, i64 (cornP p true sc set).2]
abbrev yieldV (p : Plt) (set i : Nat) : Value × Value := (i64 ((scalesP p set).getD i 0), .agg (cornC p set ((scalesP p set).getD i 0)).toArray)
theorem scalesP_get (p : Plt) (set j : Nat) (hj : okAt p set (p.sc.1 + (j : Nat)) = true) (h : j < nSc p) : (scalesP p set).getD (filS p set j).length 0 = p.sc.1 + (j : Nat) := by
  have := filS_get p set j hj _ h
  unfold scalesP
  rw [List.getD_eq_getElem?_getD, List.getElem?_map, this]; rfl
abbrev scalesR (set pn sn pb : Nat) : Heap := [(pn, blk [.pointer (some ⟨pb, 0, none⟩)] 91), (sn, blk [.int .u64 (set : Nat)] 114)]

set_option maxRecDepth 100000 in
set_option maxHeartbeats 4000000 in
theorem scales1_any (y : Option Addr × Nat) (p : Plt) (set pn sn pb mb : Nat) (W : World) (b : Bool) (hst : InP W y p) (hp : PltOk p) (hset : setOk p set) :
    IterS Try.prog 123 [.pointer (some ⟨pn, 0, none⟩), .pointer (some ⟨sn, 0, none⟩)] W (scalesR set pn sn pb) (fun w => w.heap[pb]? = some (blk (lookC y p mb) 90)) (yieldV p set) (filS p set (nSc p)).length b := by
  intro l Ch w hk hI hE hY
  have hc := hp.c
  unfold spanOk at hc
  have hN : (nSc p : Int) = p.sc.2 - p.sc.1 + 1 := by unfold nSc; omega
  refine fEnterE hE Try.func123 rfl Try.ntmps123 rfl ?_
  refine kSeq ?_
  refine kRegion rfl ?_
  refine lV (yLoad1 rfl O91 (cOwn 0 rfl rfl)) rfl rfl ?_
  refine lV (yCall rfl (.c rfl .n) C69 (fun w hw => ways_any pb w)) rfl rfl ?_
  refine lE rfl ?_
  refine eAlloc Z104 fun n4 => ?_
  refine lE rfl ?_
  refine eStoreL 0 rfl rfl rfl rfl K104 rfl (rfl) ?_
  refine lNil ?_
  refine kThen ?_
  refine kSeq ?_
  refine kRegion rfl ?_
  refine lV (yLoad1 rfl O91 (cOwn 1 rfl rfl)) rfl rfl ?_
  refine lV (yNilCheckP rfl) rfl rfl ?_
  refine lV (yFieldAddr rfl F90_0) rfl rfl ?_
  refine lV (yFieldAddr rfl F26_0) rfl rfl ?_
  refine lV (yFieldAddr rfl F23_0) rfl rfl ?_
  refine lV (yLoad1 rfl O3 (cFact (fun w hw => hI 0 w [_] hw) rfl)) rfl rfl ?_
  refine lV (yAssign rfl) rfl rfl ?_
  refine lNil ?_
  refine kThen ?_
  refine kBlock ?_
  refine kLoopX (ι := Nat) (fun j => j ≤ nSc p ∧ (b = true ∨ (filS p set j).length = 0)) (fun j => [(5, i64 (p.sc.1 + (j : Nat)))]) [(0, _), (1, _), (2, _), (10, _), (11, _), (4, _), (12, _), (13, _), (14, _), (15, _), (16, _), (17, _)] (fun j => []) (fun j => (Ch (filS p set j).length)) [(n4, _), (pn, _), (sn, _)] (fun j => nSc p - j) 0 (⟨Nat.zero_le _, .inr rfl⟩) rfl (.c (by show some (i64 _) = _; congr 2; omega) .n) (.c rfl (.c rfl (.c rfl (.c rfl (.c rfl (.c rfl (.c rfl (.c rfl (.c rfl (.c rfl (.c rfl (.c rfl .n)))))))))))) .r ?_
  rintro j ⟨hj, hb⟩
  refine kSeq ?_
  refine kSeq ?_
  refine kRegion rfl ?_
  refine lV (yMove rfl) rfl rfl ?_
  refine lV (yLoad1 rfl O91 (cOwn 1 rfl rfl)) rfl rfl ?_
  refine lV (yNilCheckP rfl) rfl rfl ?_
  refine lV (yFieldAddr rfl F90_0) rfl rfl ?_
  refine lV (yFieldAddr rfl F26_0) rfl rfl ?_
  refine lV (yFieldAddr rfl F23_1) rfl rfl ?_
  refine lV (yLoad1 rfl O3 (cFact (fun w hw => hI (filS p set j).length w [_] hw) rfl)) rfl rfl ?_
  refine lV (yLeq rfl rfl) rfl rfl ?_
  refine lNil ?_
  refine kThen ?_
  refine split (t := 25) rfl (fun h25 => ?_) (fun h25 => ?_)
  · refine kIfT rfl ?_
    refine kSkip ?_
    refine kThen ?_
    refine kSeq ?_
    refine kBlock ?_
    refine kSeq ?_
    refine kRegion rfl ?_
    refine lV (yIndexAr rfl rfl R104 (by omega) (by omega)) rfl rfl ?_
    refine lV (yLoadA (vs := [_, _, _]) rfl A103 (cOwn 0 rfl rfl)) rfl rfl ?_
    refine lV (yMove rfl) rfl rfl ?_
    refine lV (yLoad1 rfl O114 (cOwn 2 rfl rfl)) rfl rfl ?_
    refine lV (yCall rfl (.c rfl (.c rfl (.c rfl .n))) C124 (fun w hw => corner_any pb mb y p false _ set w (hI (filS p set j).length w [_] hw) (hst.eff0 hw) hp (by omega) hset)) rfl rfl ?_
    refine lV (yMove rfl) rfl rfl ?_
    refine lV (yExtract rfl rfl) rfl rfl ?_
    refine lV (yExtract rfl rfl) rfl rfl ?_
    refine lE rfl ?_
    refine eAlloc Z23 fun n6 => ?_
    refine lE rfl ?_
    refine eStoreL 0 rfl rfl rfl rfl K23 rfl (rfl) ?_
    refine lV (yAssign rfl) rfl rfl ?_
    refine lNil ?_
    refine kThen ?_
    refine kSeq ?_
    refine kRegion rfl ?_
    refine lV (yIndexAr rfl rfl R104 (by omega) (by omega)) rfl rfl ?_
    refine lV (yLoadA (vs := [_, _, _]) rfl A103 (cOwn 1 rfl rfl)) rfl rfl ?_
    refine lV (yMove rfl) rfl rfl ?_
    refine lV (yLoad1 rfl O114 (cOwn 3 rfl rfl)) rfl rfl ?_
    refine lV (yCall rfl (.c rfl (.c rfl (.c rfl .n))) C124 (fun w hw => corner_any pb mb y p true _ set w (hI (filS p set j).length w [_, _] hw) (hst.eff0 hw) hp (by omega) hset)) rfl rfl ?_
    refine lV (yMove rfl) rfl rfl ?_
    refine lV (yExtract rfl rfl) rfl rfl ?_
    refine lV (yExtract rfl rfl) rfl rfl ?_
    refine lE rfl ?_
    refine eAlloc Z23 fun n8 => ?_
    refine lE rfl ?_
    refine eStoreL 0 rfl rfl rfl rfl K23 rfl (rfl) ?_
    refine lV (yAssign rfl) rfl rfl ?_
    refine lNil ?_
    refine kThen ?_
    refine kSeq ?_
    refine kRegion rfl ?_
    refine lV (yMove rfl) rfl rfl ?_
    refine lV (yMove rfl) rfl rfl ?_
    refine splitB (t := 45) rfl (fun h45 => ?_) (fun h45 => ?_)
    · refine lGY rfl rfl rfl (oV (yMove rfl) rfl ?_)
      refine lV (yPickT rfl rfl) rfl rfl ?_
      refine lV (yMove rfl) rfl rfl ?_
      refine splitB (t := 48) rfl (fun h48 => ?_) (fun h48 => ?_)
      · have hok : okAt p set (p.sc.1 + (j : Nat)) = true := by unfold okAt; rw [h45, h48]; rfl
        have hlen := filS_len p set j hok (n := nSc p) (by omega)
        have hl1 : (filS p set (j + 1)).length = (filS p set j).length + 1 := by rw [filS_succ, if_pos hok]; simp
        have hv : yieldV p set (filS p set j).length = (i64 (p.sc.1 + (j : Nat)), .agg (cornC p set (p.sc.1 + (j : Nat))).toArray) := by
          have := scalesP_get p set j hok (by omega)
          unfold yieldV
          rw [this]
        have hlt : (filS p set j).length < (if b = true then (filS p set (nSc p)).length else min 1 (filS p set (nSc p)).length) := by
          split
          · exact hlen
          · rcases hb with h | h
            · contradiction
            · omega
        refine lGY rfl rfl rfl (oV (yMove rfl) rfl ?_)
        refine lGY rfl rfl rfl (oV (yMove rfl) rfl ?_)
        refine lGY rfl rfl rfl (oV (yLoadA (vs := [_, _]) rfl A23 (cOwn 1 rfl rfl)) rfl ?_)
        refine lGY rfl rfl rfl (oV (yLoadA (vs := [_, _]) rfl A23 (cOwn 0 rfl rfl)) rfl ?_)
        refine lGY rfl rfl rfl (oV (yBuild (.c rfl (.c rfl .n)) (fun w => B97_0_1 w)) rfl ?_)
        refine lGY rfl rfl rfl ?_
        refine eYieldS (L := [(n8, _), (n6, _), (n4, _), (pn, _), (sn, _)]) (A := Ch (filS p set j).length) (A' := Ch ((filS p set j).length + 1)) (b := b) rfl rfl (.c rfl (.c rfl .n)) (fun w hw => (by have h := hY (filS p set j).length hlt w [_, _, _] hw; rw [hv] at h; exact h)) ((hk _).trans (hk _).symm) ?_
        refine lGY rfl rfl rfl (oV (yNot rfl) rfl ?_)
        refine lV (yPickT rfl rfl) rfl rfl ?_
        refine lNil ?_
        refine kThen ?_
        refine splitB (t := 56) rfl (fun h56 => ?_) (fun h56 => ?_)
        · refine kIfT rfl ?_
          refine kRet ?_
          refine kInR ?_
          refine kThenR ?_
          refine kThenR ?_
          refine kInR ?_
          refine fRet rfl .n ?_
          have hbf : b = false := by simpa using h56
          have h0 : (filS p set j).length = 0 := hb.resolve_left (by rw [hbf]; decide)
          have e : (if b = true then (filS p set (nSc p)).length else min 1 (filS p set (nSc p)).length) = (filS p set j).length + 1 := by
            rw [if_neg (by rw [hbf]; decide)]; omega
          rw [e]
          exact fun w' hw' => ⟨rfl, hw'.sub (.d 0 (.d 0 (.d 0 .r)))⟩
        · rw [← hl1]
          refine kIfF rfl ?_
          refine kSkip ?_
          refine kInN ?_
          refine kThen ?_
          refine kRegion rfl ?_
          refine lV (yMove rfl) rfl rfl ?_
          refine lV (yAdd rfl rfl (by omega)) rfl rfl ?_
          refine lV (yAssign rfl) rfl rfl ?_
          refine lNil ?_
          exact kRoundX (j + 1) (⟨by omega, .inl (by simpa using h56)⟩) (by omega) rfl (.c (by show some (i64 _) = _; congr 2; omega) .n) (.c rfl (.c rfl (.c rfl (.c rfl (.c rfl (.c rfl (.c rfl (.c rfl (.c rfl (.c rfl (.c rfl (.c rfl .n)))))))))))) (.c 2 rfl (.c 2 rfl (.c 2 rfl (.d 0 (.d 0 .r)))))
      · have hok : okAt p set (p.sc.1 + (j : Nat)) = false := by unfold okAt; rw [h45, h48]; rfl
        have hl0 : (filS p set (j + 1)).length = (filS p set j).length := by rw [filS_succ, if_neg (by rw [hok]; decide)]; simp
        rw [← hl0]
        refine lGN rfl rfl rfl rfl rfl ?_
        refine lGN rfl rfl rfl rfl rfl ?_
        refine lGN rfl rfl rfl rfl rfl ?_
        refine lGN rfl rfl rfl rfl rfl ?_
        refine lGN rfl rfl rfl rfl rfl ?_
        refine lGN rfl rfl rfl rfl rfl ?_
        refine lGN rfl rfl rfl rfl rfl ?_
        refine lV (yPickF rfl rfl) rfl rfl ?_
        refine lNil ?_
        refine kThen ?_
        refine kIfF rfl ?_
        refine kSkip ?_
        refine kInN ?_
        refine kThen ?_
        refine kRegion rfl ?_
        refine lV (yMove rfl) rfl rfl ?_
        refine lV (yAdd rfl rfl (by omega)) rfl rfl ?_
        refine lV (yAssign rfl) rfl rfl ?_
        refine lNil ?_
        exact kRoundX (j + 1) (⟨by omega, by rw [hl0]; exact hb⟩) (by omega) rfl (.c (by show some (i64 _) = _; congr 2; omega) .n) (.c rfl (.c rfl (.c rfl (.c rfl (.c rfl (.c rfl (.c rfl (.c rfl (.c rfl (.c rfl (.c rfl (.c rfl .n)))))))))))) (.c 2 rfl (.c 2 rfl (.c 2 rfl (.d 0 (.d 0 .r)))))
    · have hok : okAt p set (p.sc.1 + (j : Nat)) = false := by unfold okAt; rw [h45]; rfl
      have hl0 : (filS p set (j + 1)).length = (filS p set j).length := by rw [filS_succ, if_neg (by rw [hok]; decide)]; simp
      rw [← hl0]
      refine lGN rfl rfl rfl rfl rfl ?_
      refine lV (yPickF rfl rfl) rfl rfl ?_
      refine lV (yMove rfl) rfl rfl ?_
      refine lGN rfl rfl rfl rfl rfl ?_
      refine lGN rfl rfl rfl rfl rfl ?_
      refine lGN rfl rfl rfl rfl rfl ?_
      refine lGN rfl rfl rfl rfl rfl ?_
      refine lGN rfl rfl rfl rfl rfl ?_
      refine lGN rfl rfl rfl rfl rfl ?_
      refine lGN rfl rfl rfl rfl rfl ?_
      refine lV (yPickF rfl rfl) rfl rfl ?_
      refine lNil ?_
      refine kThen ?_
      refine kIfF rfl ?_
      refine kSkip ?_
      refine kInN ?_
      refine kThen ?_
      refine kRegion rfl ?_
      refine lV (yMove rfl) rfl rfl ?_
      refine lV (yAdd rfl rfl (by omega)) rfl rfl ?_
      refine lV (yAssign rfl) rfl rfl ?_
      refine lNil ?_
      exact kRoundX (j + 1) (⟨by omega, by rw [hl0]; exact hb⟩) (by omega) rfl (.c (by show some (i64 _) = _; congr 2; omega) .n) (.c rfl (.c rfl (.c rfl (.c rfl (.c rfl (.c rfl (.c rfl (.c rfl (.c rfl (.c rfl (.c rfl (.c rfl .n)))))))))))) (.c 2 rfl (.c 2 rfl (.c 2 rfl (.d 0 (.d 0 .r)))))
  · refine kIfF rfl ?_
    refine kExit ?_
    refine kThenX ?_
    refine kThenX ?_
    refine kInX ?_
    refine fEnd rfl .n ?_
    obtain rfl : j = nSc p := by omega
    have e : (if b = true then (filS p set (nSc p)).length else min 1 (filS p set (nSc p)).length) = (filS p set (nSc p)).length := by
      rcases hb with h | h
      · rw [if_pos h]
      · rw [h]; simp
    rw [e]
    exact fun w' hw' => ⟨rfl, hw'.sub (.d 0 .r)⟩
end Go.Proofs.Ytlcdohhhhlhpmaa
