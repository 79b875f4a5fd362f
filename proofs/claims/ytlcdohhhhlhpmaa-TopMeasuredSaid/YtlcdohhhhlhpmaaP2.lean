/-
  Texts Af, Ag, Ah, Ai, Aj in one.
-/
import Derived.Test.YtlcdohhhhlhpmaaP1
import Derived.Test.YtlcdohhhhlhpmaaE3
namespace Go.Proofs.Ytlcdohhhhlhpmaa
open ZW

/-- Can the stars of a set be right with a scale? -/
def okAt (p : Plt) (set : Nat) (sc : Int) : Bool := decide ((cornP p false sc set).1 ≤ (cornP p false sc set).2) && decide ((cornP p true sc set).1 ≤ (cornP p true sc set).2)
/-- The first so many scales that can be, as numbers from the least one on. -/
def filS (p : Plt) (set n : Nat) : List Nat := (List.range n).filter fun j => okAt p set (p.sc.1 + (j : Nat))
def nSc (p : Plt) : Nat := (p.sc.2 - p.sc.1 + 1).toNat
/-- The scales that can be. -/
def scalesP (p : Plt) (set : Nat) : List Int := (filS p set (nSc p)).map fun (j : Nat) => p.sc.1 + (j : Int)
theorem filS_succ (p : Plt) (set n : Nat) : filS p set (n + 1) = filS p set n ++ if okAt p set (p.sc.1 + (n : Nat)) = true then [n] else [] := by
  unfold filS
  rw [List.range_succ, List.filter_append]
  congr 1
  by_cases h : okAt p set (p.sc.1 + (n : Nat)) = true
  · rw [if_pos h, List.filter_cons_of_pos (by simpa using h)]; rfl
  · rw [if_neg h, List.filter_cons_of_neg (by simpa using h)]; rfl
theorem filS_get (p : Plt) (set j : Nat) (hj : okAt p set (p.sc.1 + (j : Nat)) = true) : ∀ n, j < n → (filS p set n)[(filS p set j).length]? = some j
  | 0, h => absurd h (by omega)
  | n + 1, h => by
    rw [filS_succ]
    by_cases h1 : j < n
    · have ih := filS_get p set j hj n h1
      have hl := (List.getElem?_eq_some_iff.1 ih).1
      rw [List.getElem?_append_left hl]; exact ih
    · obtain rfl : j = n := by omega
      rw [if_pos hj, List.getElem?_append_right (Nat.le_refl _), Nat.sub_self]; rfl
theorem filS_len (p : Plt) (set j : Nat) (hj : okAt p set (p.sc.1 + (j : Nat)) = true) {n : Nat} (h : j < n) : (filS p set j).length < (filS p set n).length := (List.getElem?_eq_some_iff.1 (filS_get p set j hj n h)).1
/-- Both corners. -/
abbrev cornC (p : Plt) (set : Nat) (sc : Int) : List Value := [i64 (cornP p false sc set).1, i64 (cornP p false sc set).2, i64 (cornP p true sc set).1, i64 (cornP p true sc set).2]
abbrev yieldV (p : Plt) (set i : Nat) : Value × Value := (i64 ((scalesP p set).getD i 0), .agg (cornC p set ((scalesP p set).getD i 0)).toArray)
theorem scalesP_get (p : Plt) (set j : Nat) (hj : okAt p set (p.sc.1 + (j : Nat)) = true) (h : j < nSc p) : (scalesP p set).getD (filS p set j).length 0 = p.sc.1 + (j : Nat) := by
  have := filS_get p set j hj _ h
  unfold scalesP
  rw [List.getD_eq_getElem?_getD, List.getElem?_map, this]; rfl
abbrev scalesR (set pn sn pb : Nat) : Heap := [(pn, blk [.pointer (some ⟨pb, 0, none⟩)] 91), (sn, blk [.int .u64 (set : Nat)] 114)]

set_option maxRecDepth 100000 in
set_option maxHeartbeats 4000000 in
theorem scales1_any (y : Option Addr × Nat) (p : Plt) (set pn sn pb mb : Nat) (W : World) (b : Bool) (hst : InP W y p) (hp : PltOk p) (hset : setOk p set) :
    IterS Try.prog 123 [.pointer (some ⟨pn, 0, none⟩), .pointer (some ⟨sn, 0, none⟩)] W (scalesR set pn sn pb) (fun w => w.heap[pb]? = some (blk (lookC y p mb) 90)) (yieldV p set) (filS p set (nSc p)).length b := by
  intro l Ch w hk hI hE hY
  have hc := hp.c
  unfold spanOk at hc
  have hN : (nSc p : Int) = p.sc.2 - p.sc.1 + 1 := by unfold nSc; omega
  refine fEnterE hE Try.func123 rfl Try.ntmps123 rfl ?_
  refine kSeq ?_
  refine kRegion rfl ?_
  refine lV (yLoad1 rfl O91 (cOwn 0 rfl rfl)) rfl rfl ?_
  refine lV (yCall rfl (.c rfl .n) C69 (fun w hw => ways_any pb w)) rfl rfl ?_
  refine lE rfl ?_
  refine eAlloc Z104 fun n4 => ?_
  refine lE rfl ?_
  refine eStoreL 0 rfl rfl rfl rfl K104 rfl (rfl) ?_
  refine lNil ?_
  refine kThen ?_
  refine kSeq ?_
  refine kRegion rfl ?_
  refine lV (yLoad1 rfl O91 (cOwn 1 rfl rfl)) rfl rfl ?_
  refine lV (yNilCheckP rfl) rfl rfl ?_
  refine lV (yFieldAddr rfl F90_0) rfl rfl ?_
  refine lV (yFieldAddr rfl F26_0) rfl rfl ?_
  refine lV (yFieldAddr rfl F23_0) rfl rfl ?_
  refine lV (yLoad1 rfl O3 (cFact (fun w hw => hI 0 w [_] hw) rfl)) rfl rfl ?_
  refine lV (yAssign rfl) rfl rfl ?_
  refine lNil ?_
  refine kThen ?_
  refine kBlock ?_
  refine kLoopX (ι := Nat) (fun j => j ≤ nSc p ∧ (b = true ∨ (filS p set j).length = 0)) (fun j => [(5, i64 (p.sc.1 + (j : Nat)))]) [(0, _), (1, _), (2, _), (10, _), (11, _), (4, _), (12, _), (13, _), (14, _), (15, _), (16, _), (17, _)] (fun j => []) (fun j => (Ch (filS p set j).length)) [(n4, _), (pn, _), (sn, _)] (fun j => nSc p - j) 0 (⟨Nat.zero_le _, .inr rfl⟩) rfl (.c (by show some (i64 _) = _; congr 2; omega) .n) (.c rfl (.c rfl (.c rfl (.c rfl (.c rfl (.c rfl (.c rfl (.c rfl (.c rfl (.c rfl (.c rfl (.c rfl .n)))))))))))) .r ?_
  rintro j ⟨hj, hb⟩
  refine kSeq ?_
  refine kSeq ?_
  refine kRegion rfl ?_
  refine lV (yMove rfl) rfl rfl ?_
  refine lV (yLoad1 rfl O91 (cOwn 1 rfl rfl)) rfl rfl ?_
  refine lV (yNilCheckP rfl) rfl rfl ?_
  refine lV (yFieldAddr rfl F90_0) rfl rfl ?_
  refine lV (yFieldAddr rfl F26_0) rfl rfl ?_
  refine lV (yFieldAddr rfl F23_1) rfl rfl ?_
  refine lV (yLoad1 rfl O3 (cFact (fun w hw => hI (filS p set j).length w [_] hw) rfl)) rfl rfl ?_
  refine lV (yLeq rfl rfl) rfl rfl ?_
  refine lNil ?_
  refine kThen ?_
  refine split (t := 25) rfl (fun h25 => ?_) (fun h25 => ?_)
  · refine kIfT rfl ?_
    refine kSkip ?_
    refine kThen ?_
    refine kSeq ?_
    refine kBlock ?_
    refine kSeq ?_
    refine kRegion rfl ?_
    refine lV (yIndexAr rfl rfl R104 (by omega) (by omega)) rfl rfl ?_
    refine lV (yLoadA (vs := [_, _, _]) rfl A103 (cOwn 0 rfl rfl)) rfl rfl ?_
    refine lV (yMove rfl) rfl rfl ?_
    refine lV (yLoad1 rfl O114 (cOwn 2 rfl rfl)) rfl rfl ?_
    refine lV (yCall rfl (.c rfl (.c rfl (.c rfl .n))) C124 (fun w hw => corner_any pb mb y p false _ set w (hI (filS p set j).length w [_] hw) (hst.eff0 hw) hp (by omega) hset)) rfl rfl ?_
    refine lV (yMove rfl) rfl rfl ?_
    refine lV (yExtract rfl rfl) rfl rfl ?_
    refine lV (yExtract rfl rfl) rfl rfl ?_
    refine lE rfl ?_
    refine eAlloc Z23 fun n6 => ?_
    refine lE rfl ?_
    refine eStoreL 0 rfl rfl rfl rfl K23 rfl (rfl) ?_
    refine lV (yAssign rfl) rfl rfl ?_
    refine lNil ?_
    refine kThen ?_
    refine kSeq ?_
    refine kRegion rfl ?_
    refine lV (yIndexAr rfl rfl R104 (by omega) (by omega)) rfl rfl ?_
    refine lV (yLoadA (vs := [_, _, _]) rfl A103 (cOwn 1 rfl rfl)) rfl rfl ?_
    refine lV (yMove rfl) rfl rfl ?_
    refine lV (yLoad1 rfl O114 (cOwn 3 rfl rfl)) rfl rfl ?_
    refine lV (yCall rfl (.c rfl (.c rfl (.c rfl .n))) C124 (fun w hw => corner_any pb mb y p true _ set w (hI (filS p set j).length w [_, _] hw) (hst.eff0 hw) hp (by omega) hset)) rfl rfl ?_
    refine lV (yMove rfl) rfl rfl ?_
    refine lV (yExtract rfl rfl) rfl rfl ?_
    refine lV (yExtract rfl rfl) rfl rfl ?_
    refine lE rfl ?_
    refine eAlloc Z23 fun n8 => ?_
    refine lE rfl ?_
    refine eStoreL 0 rfl rfl rfl rfl K23 rfl (rfl) ?_
    refine lV (yAssign rfl) rfl rfl ?_
    refine lNil ?_
    refine kThen ?_
    refine kSeq ?_
    refine kRegion rfl ?_
    refine lV (yMove rfl) rfl rfl ?_
    refine lV (yMove rfl) rfl rfl ?_
    refine splitB (t := 45) rfl (fun h45 => ?_) (fun h45 => ?_)
    · refine lGY rfl rfl rfl (oV (yMove rfl) rfl ?_)
      refine lV (yPickT rfl rfl) rfl rfl ?_
      refine lV (yMove rfl) rfl rfl ?_
      refine splitB (t := 48) rfl (fun h48 => ?_) (fun h48 => ?_)
      · have hok : okAt p set (p.sc.1 + (j : Nat)) = true := by unfold okAt; rw [h45, h48]; rfl
        have hlen := filS_len p set j hok (n := nSc p) (by omega)
        have hl1 : (filS p set (j + 1)).length = (filS p set j).length + 1 := by rw [filS_succ, if_pos hok]; simp
        have hv : yieldV p set (filS p set j).length = (i64 (p.sc.1 + (j : Nat)), .agg (cornC p set (p.sc.1 + (j : Nat))).toArray) := by
          have := scalesP_get p set j hok (by omega)
          unfold yieldV
          rw [this]
        have hlt : (filS p set j).length < (if b = true then (filS p set (nSc p)).length else min 1 (filS p set (nSc p)).length) := by
          split
          · exact hlen
          · rcases hb with h | h
            · contradiction
            · omega
        refine lGY rfl rfl rfl (oV (yMove rfl) rfl ?_)
        refine lGY rfl rfl rfl (oV (yMove rfl) rfl ?_)
        refine lGY rfl rfl rfl (oV (yLoadA (vs := [_, _]) rfl A23 (cOwn 1 rfl rfl)) rfl ?_)
        refine lGY rfl rfl rfl (oV (yLoadA (vs := [_, _]) rfl A23 (cOwn 0 rfl rfl)) rfl ?_)
        refine lGY rfl rfl rfl (oV (yBuild (.c rfl (.c rfl .n)) (fun w => B97_0_1 w)) rfl ?_)
        refine lGY rfl rfl rfl ?_
        refine eYieldS (L := [(n8, _), (n6, _), (n4, _), (pn, _), (sn, _)]) (A := Ch (filS p set j).length) (A' := Ch ((filS p set j).length + 1)) (b := b) rfl rfl (.c rfl (.c rfl .n)) (fun w hw => (by have h := hY (filS p set j).length hlt w [_, _, _] hw; rw [hv] at h; exact h)) ((hk _).trans (hk _).symm) ?_
        refine lGY rfl rfl rfl (oV (yNot rfl) rfl ?_)
        refine lV (yPickT rfl rfl) rfl rfl ?_
        refine lNil ?_
        refine kThen ?_
        refine splitB (t := 56) rfl (fun h56 => ?_) (fun h56 => ?_)
        · refine kIfT rfl ?_
          refine kRet ?_
          refine kInR ?_
          refine kThenR ?_
          refine kThenR ?_
          refine kInR ?_
          refine fRet rfl .n ?_
          have hbf : b = false := by simpa using h56
          have h0 : (filS p set j).length = 0 := hb.resolve_left (by rw [hbf]; decide)
          have e : (if b = true then (filS p set (nSc p)).length else min 1 (filS p set (nSc p)).length) = (filS p set j).length + 1 := by
            rw [if_neg (by rw [hbf]; decide)]; omega
          rw [e]
          exact fun w' hw' => ⟨rfl, hw'.sub (.d 0 (.d 0 (.d 0 .r)))⟩
        · rw [← hl1]
          refine kIfF rfl ?_
          refine kSkip ?_
          refine kInN ?_
          refine kThen ?_
          refine kRegion rfl ?_
          refine lV (yMove rfl) rfl rfl ?_
          refine lV (yAdd rfl rfl (by omega)) rfl rfl ?_
          refine lV (yAssign rfl) rfl rfl ?_
          refine lNil ?_
          exact kRoundX (j + 1) (⟨by omega, .inl (by simpa using h56)⟩) (by omega) rfl (.c (by show some (i64 _) = _; congr 2; omega) .n) (.c rfl (.c rfl (.c rfl (.c rfl (.c rfl (.c rfl (.c rfl (.c rfl (.c rfl (.c rfl (.c rfl (.c rfl .n)))))))))))) (.c 2 rfl (.c 2 rfl (.c 2 rfl (.d 0 (.d 0 .r)))))
      · have hok : okAt p set (p.sc.1 + (j : Nat)) = false := by unfold okAt; rw [h45, h48]; rfl
        have hl0 : (filS p set (j + 1)).length = (filS p set j).length := by rw [filS_succ, if_neg (by rw [hok]; decide)]; simp
        rw [← hl0]
        refine lGN rfl rfl rfl rfl rfl ?_
        refine lGN rfl rfl rfl rfl rfl ?_
        refine lGN rfl rfl rfl rfl rfl ?_
        refine lGN rfl rfl rfl rfl rfl ?_
        refine lGN rfl rfl rfl rfl rfl ?_
        refine lGN rfl rfl rfl rfl rfl ?_
        refine lGN rfl rfl rfl rfl rfl ?_
        refine lV (yPickF rfl rfl) rfl rfl ?_
        refine lNil ?_
        refine kThen ?_
        refine kIfF rfl ?_
        refine kSkip ?_
        refine kInN ?_
        refine kThen ?_
        refine kRegion rfl ?_
        refine lV (yMove rfl) rfl rfl ?_
        refine lV (yAdd rfl rfl (by omega)) rfl rfl ?_
        refine lV (yAssign rfl) rfl rfl ?_
        refine lNil ?_
        exact kRoundX (j + 1) (⟨by omega, by rw [hl0]; exact hb⟩) (by omega) rfl (.c (by show some (i64 _) = _; congr 2; omega) .n) (.c rfl (.c rfl (.c rfl (.c rfl (.c rfl (.c rfl (.c rfl (.c rfl (.c rfl (.c rfl (.c rfl (.c rfl .n)))))))))))) (.c 2 rfl (.c 2 rfl (.c 2 rfl (.d 0 (.d 0 .r)))))
    · have hok : okAt p set (p.sc.1 + (j : Nat)) = false := by unfold okAt; rw [h45]; rfl
      have hl0 : (filS p set (j + 1)).length = (filS p set j).length := by rw [filS_succ, if_neg (by rw [hok]; decide)]; simp
      rw [← hl0]
      refine lGN rfl rfl rfl rfl rfl ?_
      refine lV (yPickF rfl rfl) rfl rfl ?_
      refine lV (yMove rfl) rfl rfl ?_
      refine lGN rfl rfl rfl rfl rfl ?_
      refine lGN rfl rfl rfl rfl rfl ?_
      refine lGN rfl rfl rfl rfl rfl ?_
      refine lGN rfl rfl rfl rfl rfl ?_
      refine lGN rfl rfl rfl rfl rfl ?_
      refine lGN rfl rfl rfl rfl rfl ?_
      refine lGN rfl rfl rfl rfl rfl ?_
      refine lV (yPickF rfl rfl) rfl rfl ?_
      refine lNil ?_
      refine kThen ?_
      refine kIfF rfl ?_
      refine kSkip ?_
      refine kInN ?_
      refine kThen ?_
      refine kRegion rfl ?_
      refine lV (yMove rfl) rfl rfl ?_
      refine lV (yAdd rfl rfl (by omega)) rfl rfl ?_
      refine lV (yAssign rfl) rfl rfl ?_
      refine lNil ?_
      exact kRoundX (j + 1) (⟨by omega, by rw [hl0]; exact hb⟩) (by omega) rfl (.c (by show some (i64 _) = _; congr 2; omega) .n) (.c rfl (.c rfl (.c rfl (.c rfl (.c rfl (.c rfl (.c rfl (.c rfl (.c rfl (.c rfl (.c rfl (.c rfl .n)))))))))))) (.c 2 rfl (.c 2 rfl (.c 2 rfl (.d 0 (.d 0 .r)))))
  · refine kIfF rfl ?_
    refine kExit ?_
    refine kThenX ?_
    refine kThenX ?_
    refine kInX ?_
    refine fEnd rfl .n ?_
    obtain rfl : j = nSc p := by omega
    have e : (if b = true then (filS p set (nSc p)).length else min 1 (filS p set (nSc p)).length) = (filS p set (nSc p)).length := by
      rcases hb with h | h
      · rw [if_pos h]
      · rw [h]; simp
    rw [e]
    exact fun w' hw' => ⟨rfl, hw'.sub (.d 0 .r)⟩
end Go.Proofs.Ytlcdohhhhlhpmaa
namespace Go.Proofs.Ytlcdohhhhlhpmaa
open ZW

set_option maxRecDepth 100000 in
theorem scales_any (pb set : Nat) (w : World) : Calls Try.prog 101 [.pointer (some ⟨pb, 0, none⟩), .int .u64 (set : Nat)].toArray w
    (RetX w (fun _ : Nat × Nat => True) (fun x => .func (.func 123) [].toArray [.pointer (some ⟨x.1, 0, none⟩), .pointer (some ⟨x.2, 0, none⟩)].toArray) (fun _ => [])
      (fun x => [(x.1, blk [.pointer (some ⟨pb, 0, none⟩)] 91), (x.2, blk [.int .u64 (set : Nat)] 114)])) := by
  refine fEnter Try.func101 rfl Try.ntmps101 rfl ?_
  refine kSeq ?_
  refine kRegion rfl ?_
  refine lE rfl ?_
  refine eBox1 rfl rfl fun n2 => ?_
  refine lE rfl ?_
  refine eBox1 rfl rfl fun n3 => ?_
  refine lV (yAssign rfl) rfl rfl ?_
  refine lNil ?_
  refine kThen ?_
  refine kSeq ?_
  refine kRegion rfl ?_
  refine lV (yMakeFunc .n (.c rfl (.c rfl .n))) rfl rfl ?_
  refine lV (yAssign rfl) rfl rfl ?_
  refine lNil ?_
  refine kThen ?_
  refine kRet ?_
  refine fRet rfl (.t rfl .n) ?_
  exact endX (n2, n3) trivial rfl rfl (.c 1 rfl (.c 0 rfl .n))

/-- What comes of opening a plate. -/
def OpenR (w : World) (y : Option Addr × Nat) (p : Plt) (is : Bool) : Ending → World → Prop := fun e w' =>
  (PltOk p ∧ is = true ∧ RetX w (fun _ : Nat × Nat => True) (fun x => .pointer (some ⟨x.1, 0, none⟩)) (fun _ => []) (fun x => [(x.1, blk (lookC y p x.2) 90), (x.2, mapO .i64 [])]) e w') ∨
  (¬ PltOk p ∧ Pan w (misV 1) e w') ∨ (PltOk p ∧ is = false ∧ Pan w (misV 2) e w')
set_option maxRecDepth 100000 in
theorem open_all (y : Option Addr × Nat) (p : Plt) (is : Bool) (w : World) (hm : InP w y p) : Calls Try.prog 79 [.agg (pltC y p).toArray, .bool is].toArray w (OpenR w y p is) := by
  refine fEnter Try.func79 rfl Try.ntmps79 rfl ?_
  refine kSeq ?_
  refine kRegion rfl ?_
  refine lE rfl ?_
  refine eBoxA rfl fun n2 => ?_
  refine lV (yAssign rfl) rfl rfl ?_
  refine lNil ?_
  refine kThen ?_
  refine kSeq ?_
  refine kRegion rfl ?_
  refine lV (yLoadA (vs := [_, _, _]) rfl A26 (cOwn 0 rfl rfl)) rfl rfl ?_
  refine lV (yCall rfl (.c rfl .n) C112 (fun w hw => isPlate_any y p w (hm.eff0 hw))) rfl rfl ?_
  refine splitB (t := 6) rfl (fun h6 => ?_) (fun h6 => ?_)
  · refine lV (yCall rfl (.c rfl (.c rfl .n)) C76 (fun w hw => need_ok 1 w)) rfl rfl ?_
    refine lNil ?_
    refine kThen ?_
    refine kSeq ?_
    refine kRegion rfl ?_
    refine lV (yMove rfl) rfl rfl ?_
    refine splitB (t := 8) rfl (fun h8 => ?_) (fun h8 => ?_)
    · refine lV (yCall rfl (.c rfl (.c rfl .n)) C76 (fun w hw => need_ok 2 w)) rfl rfl ?_
      refine lNil ?_
      refine kThen ?_
      refine kSeq ?_
      refine kRegion rfl ?_
      refine lV (yLoadA (vs := [_, _, _]) rfl A26 (cOwn 0 rfl rfl)) rfl rfl ?_
      refine lE rfl ?_
      refine eMakeMap (k := .i64) fun n11 => ?_
      refine lV (yBuild (.c rfl (.c rfl .n)) (fun w => B90_0_1 w)) rfl rfl ?_
      refine lE rfl ?_
      refine eBoxA rfl fun n13 => ?_
      refine lV (yAssign rfl) rfl rfl ?_
      refine lNil ?_
      refine kThen ?_
      refine kRet ?_
      refine fRet rfl (.t rfl .n) ?_
      exact fun w' hw' => .inl ⟨of_decide_eq_true h6, h8, endX (n13, n11) trivial rfl rfl (.c 0 rfl (.c 0 rfl .n)) w' hw'⟩
    · refine lE rfl ?_
      refine eCallP rfl (.c rfl (.c rfl .n)) C76 (fun w hw => need_pan 2 w) ?_
      refine kThenP ?_
      exact fPan (fun w' hw => .inr (.inr ⟨of_decide_eq_true h6, h8, endPan rfl w' hw⟩))
  · refine lE rfl ?_
    refine eCallP rfl (.c rfl (.c rfl .n)) C76 (fun w hw => need_pan 1 w) ?_
    refine kThenP ?_
    exact fPan (fun w' hw => .inr (.inl ⟨of_decide_eq_false h6, endPan rfl w' hw⟩))
theorem open_any (y : Option Addr × Nat) (p : Plt) (w : World) (hm : InP w y p) (hp : PltOk p) : Calls Try.prog 79 [.agg (pltC y p).toArray, .bool true].toArray w
    (RetX w (fun _ : Nat × Nat => True) (fun x => .pointer (some ⟨x.1, 0, none⟩)) (fun _ => []) (fun x => [(x.1, blk (lookC y p x.2) 90), (x.2, mapO .i64 [])])) :=
  (open_all y p true w hm).mono fun _ _ h => h.elim (fun h => h.2.2) (fun h => h.elim (fun h => absurd hp h.1) (fun h => absurd h.2.1 (by decide)))
theorem open_bad (y : Option Addr × Nat) (p : Plt) (is : Bool) (e : Int) (w : World) (hm : InP w y p) (h : (¬ PltOk p ∧ e = 1) ∨ (PltOk p ∧ is = false ∧ e = 2)) : Calls Try.prog 79 [.agg (pltC y p).toArray, .bool is].toArray w (Pan w (misV e)) :=
  (open_all y p is w hm).mono fun _ _ hx => by
    rcases h with ⟨h1, rfl⟩ | ⟨h1, h2, rfl⟩
    · rcases hx with hx | hx | hx
      · exact absurd hx.1 h1
      · exact hx.2
      · exact absurd hx.1 h1
    · rcases hx with hx | hx | hx
      · rw [h2] at hx; exact absurd hx.2.1 (by decide)
      · exact absurd h1 hx.1
      · exact hx.2.2

theorem scalesP_nil {p : Plt} {set : Nat} : scalesP p set = [] ↔ (filS p set (nSc p)).length = 0 := by
  unfold scalesP; rw [List.map_eq_nil_iff, List.length_eq_zero_iff]
set_option maxRecDepth 100000 in
set_option maxHeartbeats 4000000 in
theorem can_any (pb mb : Nat) (y : Option Addr × Nat) (p : Plt) (set : Nat) (w : World) (hb : w.heap[pb]? = some (blk (lookC y p mb) 90)) (hst : InP w y p) (hp : PltOk p) (hset : setOk p set) :
    Calls Try.prog 80 [.pointer (some ⟨pb, 0, none⟩), .int .u64 (set : Nat)].toArray w (Ret w (.bool (decide (scalesP p set ≠ [])))) := by
  refine fEnter Try.func80 rfl Try.ntmps80 rfl ?_
  refine kSeq ?_
  refine kRegion rfl ?_
  refine lE rfl ?_
  refine eAlloc Z4 fun n4 => ?_
  refine lNil ?_
  refine kThen ?_
  refine kSeq ?_
  refine kSeq ?_
  refine kRegion rfl ?_
  refine lV (yMove rfl) rfl rfl ?_
  refine lV (yMove rfl) rfl rfl ?_
  refine lE rfl ?_
  refine eCallX rfl (.c rfl (.c rfl .n)) C101 (fun w hw => scales_any pb set w) fun ⟨pn, sn⟩ _ => ?_
  refine lNil ?_
  refine kThen ?_
  refine kBlock ?_
  refine kRangeS [(pn, _), (sn, _)] (fun w => w.heap[pb]? = some (blk (lookC y p mb) 90)) (yieldV p set) ((filS p set (nSc p)).length) false (fun i => [(n4, blk [.bool (decide (0 < i))] 4)]) rfl C123 rfl rfl (.c 0 rfl (.c 0 rfl (.c 0 rfl .n))) (fun _ => rfl) (scales1_any y p set pn sn pb mb w false hst hp hset) (fun i w L hw => hw.old' hb) ?_ ?_ ?_
  · intro l r i w' hi hr
    refine kSkip ?_
    refine kThen ?_
    refine rBegin hr.1 ?_
    refine kBlock ?_
    refine kSeq ?_
    refine kRegion rfl ?_
    refine lE rfl ?_
    refine eStoreM 3 rfl rfl rfl rfl K4 rfl (rfl) ?_
    refine lNil ?_
    refine kThen ?_
    refine kRet ?_
    refine kInR ?_
    exact rRetS
  · intro hb r l o
    refine kInN ?_
    refine kThen ?_
    refine kSeq ?_
    refine kRegion rfl ?_
    refine lE rfl ?_
    refine eStoreL 4 rfl rfl rfl rfl K4 rfl (rfl) ?_
    refine lNil ?_
    refine kThen ?_
    refine kRet ?_
    refine fMark 1 rfl (.inl rfl) ?_
    refine fRet rfl (.c1 rfl O4 (cOwn 4 rfl rfl) .n) (endRet ?_)
    have h0 : scalesP p set = [] := by rcases hb with h | h; (· cases h); exact scalesP_nil.2 h
    simp only [packV, h0, ne_eq, not_true_eq_false, decide_false]
  · intro hb hn r l o
    refine kInR ?_
    refine kThenR ?_
    refine fMark 1 rfl (.inl rfl) ?_
    refine fRet rfl (.c1 rfl O4 (cOwn 4 rfl rfl) .n) (endRet ?_)
    have h0 : scalesP p set ≠ [] := fun h => by have := scalesP_nil.1 h; omega
    simp only [packV, decide_eq_true h0]; rfl

/-! ### The truth of a plate -/
/-- The first so many entries of the corners. -/
def esP (p : Plt) (set k : Nat) : List (Int × Value) := (List.range k).map fun i => ((scalesP p set).getD i 0, .agg (cornC p set ((scalesP p set).getD i 0)).toArray)
theorem mFind_none : ∀ (es : List (Int × Value)) (a : Int) (i : Nat), (∀ x ∈ es, x.1 ≠ a) → mFind es a i = none
  | [], _, _, _ => rfl
  | (b, v) :: r, a, i, h => by
    rw [mFind, if_neg (fun e => h (b, v) (by simp) e.symm)]
    exact mFind_none r a (i + 1) fun x hx => h x (by simp [hx])
theorem scalesP_nodup (p : Plt) (set : Nat) : (scalesP p set).Nodup := by
  unfold scalesP
  refine List.Pairwise.map _ (R := fun a b => a ≠ b) (fun a b h e => h (by omega)) ?_
  exact List.Nodup.sublist List.filter_sublist List.nodup_range
theorem scalesP_len (p : Plt) (set : Nat) : (scalesP p set).length = (filS p set (nSc p)).length := by unfold scalesP; simp
theorem esP_succ (p : Plt) (set k : Nat) (h : k < (scalesP p set).length) : mPut (esP p set k) ((scalesP p set).getD k 0) (.agg (cornC p set ((scalesP p set).getD k 0)).toArray) = esP p set (k + 1) := by
  have hg : ∀ i (hi : i < (scalesP p set).length), (scalesP p set).getD i 0 = (scalesP p set)[i] := fun i hi => (List.getElem_eq_getD (h := hi) 0).symm
  have hn : mFind (esP p set k) ((scalesP p set).getD k 0) 0 = none := by
    refine mFind_none _ _ _ fun x hx => ?_
    unfold esP at hx
    obtain ⟨j, hj, rfl⟩ := List.mem_map.1 hx
    rw [List.mem_range] at hj
    dsimp only
    rw [hg k h, hg j (by omega)]
    intro e
    have := (List.getElem_inj (scalesP_nodup p set)).1 e
    omega
  rw [mPut, hn, esP, esP, List.range_succ, List.map_append]
  rfl
theorem esP_len (p : Plt) (set k : Nat) : (esP p set k).length = k := by simp [esP]
abbrev esA (p : Plt) (set : Nat) : List (Int × Value) := esP p set (filS p set (nSc p)).length
/-- A plate that has a truth, with its corners. -/
abbrev truthL (y : Option Addr × Nat) (p : Plt) (x : Nat × Nat) : Heap := [(x.1, blk (lookC y p x.2) 90), (x.2, mapO .i64 (esA p (knownP p)))]
set_option maxRecDepth 100000 in
set_option maxHeartbeats 1000000 in
theorem truth_all (y : Option Addr × Nat) (p : Plt) (w : World) (hm : InP w y p) (hp : PltOk p) : Calls Try.prog 55 [.agg (pltC y p).toArray, .bool true].toArray w
    (fun e w' => (scalesP p (knownP p) ≠ [] ∧ RetX w (fun _ : Nat × Nat => True) (fun x => .pointer (some ⟨x.1, 0, none⟩)) (fun _ => []) (truthL y p) e w') ∨ (scalesP p (knownP p) = [] ∧ Pan w (misV 10) e w')) := by
  refine fEnter Try.func55 rfl Try.ntmps55 rfl ?_
  refine kSeq ?_
  refine kRegion rfl ?_
  refine lE rfl ?_
  refine eBoxA rfl fun n2 => ?_
  refine lV (yAssign rfl) rfl rfl ?_
  refine lNil ?_
  refine kThen ?_
  refine kSeq ?_
  refine kRegion rfl ?_
  refine lV (yLoadA (vs := [_, _, _]) rfl A26 (cOwn 0 rfl rfl)) rfl rfl ?_
  refine lV (yMove rfl) rfl rfl ?_
  refine lE rfl ?_
  refine eCallX rfl (.c rfl (.c rfl .n)) C79 (fun w hw => open_any y p w (hm.eff0 hw) hp) fun ⟨pb, mb⟩ _ => ?_
  refine lE rfl ?_
  refine eAlloc Z91 fun n5 => ?_
  refine lE rfl ?_
  refine eStoreL 0 rfl rfl rfl rfl K91 rfl (rfl) ?_
  refine lNil ?_
  refine kThen ?_
  refine kSeq ?_
  refine kSeq ?_
  refine kDrawE [(0, none), (1, none), (2, none)] [] [0, 1, 2] 1 hMix (by kernel_rfl) ?_
  refine .run rfl (yLoad1 rfl O91 (cOwn 0 rfl rfl)) rfl rfl ?_
  refine .run rfl (yLoad1 rfl O91 (cOwn 0 rfl rfl)) rfl rfl ?_
  refine .run rfl (yCall rfl (.c rfl .n) C81 (fun w hw => known_any pb mb y p w (hw.blkAt 1 rfl) (hm.eff0 hw) hp.n)) rfl rfl ?_
  refine .done ?_
  refine effStep 3 [] (by kernel_rfl) closedSt (hLeft [0, 1, 2] (by kernel_rfl) (.c (fun _ _ hs => hs.ef) (.c (fun _ _ hs => hs.ef) (.c (fun _ _ hs => hs.ef) .n)))) ?_
  refine .c ?_ .n
  refine effOne rfl (gNone rfl (fCallO rfl (.c rfl (.c rfl .n)) C101 (fun w hw => scales_any pb (knownP p) w))) ?_
  refine effDone (closedEx fun x => closedSt) (hLeft [] (by kernel_rfl) .n) (by kernel_rfl) ?_
  refine trEx fun x => ?_
  obtain ⟨⟨pn, sn⟩, _⟩ := x
  dsimp only
  refine kThen ?_
  refine kBlock ?_
  refine kRangeS [(pn, _), (sn, _)] (fun w => w.heap[pb]? = some (blk (lookC y p mb) 90)) (yieldV p (knownP p)) ((filS p (knownP p) (nSc p)).length) true (fun i => [(n5, blk [.pointer (some ⟨pb, 0, none⟩)] 91), (pb, blk (lookC y p mb) 90), (mb, mapO .i64 (esP p (knownP p) i))]) rfl C123 rfl rfl (.c 4 rfl (.c 4 rfl (.c 0 rfl (.c 0 rfl (.c 0 rfl .n))))) (fun _ => rfl) (scales1_any y p (knownP p) pn sn pb mb w true hm hp (known_ok p)) (fun i w L hw => hw.own (pb, _) (by simp)) ?_ ?_ ?_
  · intro l r i w' hi hr
    refine kSeq ?_
    refine kRegion rfl ?_
    refine lV (yAssign rfl) rfl rfl ?_
    refine lNil ?_
    refine kThen ?_
    refine kRegion rfl ?_
    refine lE rfl ?_
    refine eAlloc Z97 fun n7 => ?_
    refine lE rfl ?_
    refine eStoreL 0 rfl rfl rfl rfl K97 rfl (rfl) ?_
    refine lNil ?_
    refine kThen ?_
    refine rBegin hr.1 ?_
    refine kBlock ?_
    refine kDrawE [(0, none), (3, none), (5, none)] [] [0, 1, 2, 3, 4, 5] 1 hMix (by kernel_rfl) ?_
    refine .run rfl (yLoad1 rfl O91 (cOwn 3 rfl rfl)) rfl rfl ?_
    refine .run rfl (yNilCheckP rfl) rfl rfl ?_
    refine .run rfl (yFieldAddr rfl F90_1) rfl rfl ?_
    refine .run rfl (yLoad1 rfl O88 (cOwn 4 rfl rfl)) rfl rfl ?_
    refine .run rfl (yMove rfl) rfl rfl ?_
    refine .run rfl (yLoadA (vs := [_, _, _, _]) rfl A97 (cOwn 6 rfl rfl)) rfl rfl ?_
    refine .done ?_
    refine effStep 6 [] (by kernel_rfl) closedSt (hLeft [0, 3, 5] (by kernel_rfl) (.c (fun _ _ hs => hs.ef) (.c (fun _ _ hs => hs.ef) (.c (fun _ _ hs => hs.ef) .n)))) ?_
    refine .c ?_ .n
    refine effOne rfl (gNone rfl (eMapUpdateM 5 MP88 rfl rfl rfl rfl trSelf)) ?_
    refine effDone closedSt (hLeft [] (by kernel_rfl) .n) (by kernel_rfl) ?_
    refine kInN ?_
    rw [← esP_succ p (knownP p) i (by rw [scalesP_len]; exact hi)]
    exact rNormalS hr
  · intro hb r l o
    refine kInN ?_
    refine kThen ?_
    refine kSeq ?_
    refine kRegion rfl ?_
    refine lV (yLoad1 rfl O91 (cOwn 4 rfl rfl)) rfl rfl ?_
    refine lV (yNilCheckP rfl) rfl rfl ?_
    refine lV (yFieldAddr rfl F90_1) rfl rfl ?_
    refine lV (yLoad1 rfl O88 (cOwn 5 rfl rfl)) rfl rfl ?_
    refine lV (yLenM rfl MP88 (fun w hw => hw.blkAt 6 rfl)) rfl rfl ?_
    refine lV (yGtr rfl rfl) rfl rfl ?_
    refine split (t := 28) rfl (fun h28 => ?_) (fun h28 => ?_)
    · refine lV (yCall rfl (.c rfl (.c rfl .n)) C76 (fun w hw => need_ok 10 w)) rfl rfl ?_
      refine lNil ?_
      refine kThen ?_
      refine kSeq ?_
      refine kRegion rfl ?_
      refine lV (yLoad1 rfl O91 (cOwn 4 rfl rfl)) rfl rfl ?_
      refine lV (yAssign rfl) rfl rfl ?_
      refine lNil ?_
      refine kThen ?_
      refine kRet ?_
      refine fMark 1 rfl (.inl rfl) ?_
      refine fRet rfl (.t rfl .n) fun w' hw' => .inl ⟨fun h => by rw [esP_len, scalesP_nil.1 h] at h28; exact absurd h28 (by decide), endX (pb, mb) trivial rfl rfl (.c 5 rfl (.c 5 rfl .n)) w' hw'⟩
    · refine lE rfl ?_
      refine eCallP rfl (.c rfl (.c rfl .n)) C76 (fun w hw => need_pan 10 w) ?_
      refine kThenP ?_
      refine fMarkP 1 rfl ?_
      refine fPan fun w' hw' => .inr ⟨scalesP_nil.2 (by rw [esP_len] at h28; omega), endPan rfl w' hw'⟩
  · intro hb
    cases hb
set_option maxRecDepth 100000 in
theorem truth_pan (y : Option Addr × Nat) (p : Plt) (is : Bool) (e : Int) (w : World) (hm : InP w y p) (h : (¬ PltOk p ∧ e = 1) ∨ (PltOk p ∧ is = false ∧ e = 2)) : Calls Try.prog 55 [.agg (pltC y p).toArray, .bool is].toArray w (Pan w (misV e)) := by
  refine fEnter Try.func55 rfl Try.ntmps55 rfl ?_
  refine kSeq ?_
  refine kRegion rfl ?_
  refine lE rfl ?_
  refine eBoxA rfl fun n2 => ?_
  refine lV (yAssign rfl) rfl rfl ?_
  refine lNil ?_
  refine kThen ?_
  refine kSeq ?_
  refine kRegion rfl ?_
  refine lV (yLoadA (vs := [_, _, _]) rfl A26 (cOwn 0 rfl rfl)) rfl rfl ?_
  refine lV (yMove rfl) rfl rfl ?_
  refine lE rfl ?_
  refine eCallP rfl (.c rfl (.c rfl .n)) C79 (fun w hw => open_bad y p is e w (hm.eff0 hw) h) ?_
  refine kThenP ?_
  exact fPan (endPan rfl)
/-- The errors of what asks for a truth. -/
def truthE (p : Plt) (is : Bool) : Int := if ¬ PltOk p then 1 else if is = false then 2 else if scalesP p (knownP p) = [] then 10 else 0
theorem truth_any (y : Option Addr × Nat) (p : Plt) (is : Bool) (w : World) (hm : InP w y p) (h : truthE p is = 0) : Calls Try.prog 55 [.agg (pltC y p).toArray, .bool is].toArray w
    (RetX w (fun _ : Nat × Nat => True) (fun x => .pointer (some ⟨x.1, 0, none⟩)) (fun _ => []) (truthL y p)) := by
  unfold truthE at h
  split at h
  · cases h
  · rename_i hp
    have hp := Decidable.not_not.1 hp
    cases is with
    | false => cases h
    | true =>
      rw [if_neg (by decide)] at h
      split at h
      · cases h
      · rename_i hs
        exact (truth_all y p w hm hp).mono fun _ _ hx => hx.elim (fun hx => hx.2) (fun hx => absurd hx.1 hs)
theorem truth_bad (y : Option Addr × Nat) (p : Plt) (is : Bool) (w : World) (hm : InP w y p) (h : truthE p is ≠ 0) : Calls Try.prog 55 [.agg (pltC y p).toArray, .bool is].toArray w (Pan w (misV (truthE p is))) := by
  unfold truthE at h ⊢
  split
  · rename_i hp
    exact truth_pan y p is 1 w hm (.inl ⟨hp, rfl⟩)
  · rename_i hp
    have hp := Decidable.not_not.1 hp
    cases is with
    | false => exact truth_pan y p false 2 w hm (.inr ⟨hp, rfl, rfl⟩)
    | true =>
      rw [if_neg (by decide)]
      split
      · rename_i hs
        exact (truth_all y p w hm hp).mono fun _ _ hx => hx.elim (fun hx => absurd hs hx.1) (fun hx => hx.2)
      · rename_i hs
        rw [if_neg (not_not_intro hp), if_neg (by decide), if_neg hs] at h
        exact absurd rfl h
theorem truthE_ok {p : Plt} {is : Bool} (h : truthE p is = 0) : PltOk p ∧ is = true ∧ scalesP p (knownP p) ≠ [] := by
  unfold truthE at h
  split at h
  · cases h
  · rename_i hp
    refine ⟨Decidable.not_not.1 hp, ?_⟩
    cases is with
    | false => cases h
    | true =>
      refine ⟨rfl, fun hs => ?_⟩
      rw [if_neg (by decide), if_pos hs] at h
      cases h
end Go.Proofs.Ytlcdohhhhlhpmaa
namespace Go.Proofs.Ytlcdohhhhlhpmaa
open ZW

/-- The errors of what asks for a star that is known, too. -/
def toldE (p : Plt) (is : Bool) : Int := if truthE p is ≠ 0 then truthE p is else if knownP p = 0 then 12 else 0
theorem toldE_ok {p : Plt} {is : Bool} (h : toldE p is = 0) : truthE p is = 0 ∧ knownP p ≠ 0 := by
  unfold toldE at h
  split at h
  · rename_i h1; exact absurd h h1
  · rename_i h1
    refine ⟨Decidable.not_not.1 h1, fun hk => ?_⟩
    rw [if_pos hk] at h; cases h
set_option maxRecDepth 100000 in
theorem told_any (y : Option Addr × Nat) (p : Plt) (is : Bool) (w : World) (hm : InP w y p) (h : toldE p is = 0) : Calls Try.prog 59 [.agg (pltC y p).toArray, .bool is].toArray w
    (RetX w (fun _ : Nat × Nat => True) (fun x => .pointer (some ⟨x.1, 0, none⟩)) (fun _ => []) (truthL y p)) := by
  have h1 := toldE_ok h
  refine fEnter Try.func59 rfl Try.ntmps59 rfl ?_
  refine kSeq ?_
  refine kRegion rfl ?_
  refine lE rfl ?_
  refine eBoxA rfl fun n2 => ?_
  refine lV (yAssign rfl) rfl rfl ?_
  refine lNil ?_
  refine kThen ?_
  refine kSeq ?_
  refine kRegion rfl ?_
  refine lV (yLoadA (vs := [_, _, _]) rfl A26 (cOwn 0 rfl rfl)) rfl rfl ?_
  refine lV (yMove rfl) rfl rfl ?_
  refine lE rfl ?_
  refine eCallX rfl (.c rfl (.c rfl .n)) C55 (fun w hw => truth_any y p is w (hm.eff0 hw) h1.1) fun ⟨pb, mb⟩ _ => ?_
  refine lV (yAssign rfl) rfl rfl ?_
  refine lNil ?_
  refine kThen ?_
  refine kSeq ?_
  refine kRegion rfl ?_
  refine lV (yMove rfl) rfl rfl ?_
  refine lV (yCall rfl (.c rfl .n) C81 (fun w hw => known_any pb mb y p w (hw.blkAt 0 rfl) (hm.eff0 hw) (truthE_ok h1.1).1.n)) rfl rfl ?_
  refine lV (yNeq rfl rfl) rfl rfl ?_
  refine knownB (t := 11) (c := true) rfl (decide_eq_true (by have := h1.2; omega)) ?_
  refine lV (yCall rfl (.c rfl (.c rfl .n)) C76 (fun w hw => need_ok 12 w)) rfl rfl ?_
  refine lNil ?_
  refine kThen ?_
  refine kSeq ?_
  refine kRegion rfl ?_
  refine lV (yMove rfl) rfl rfl ?_
  refine lV (yAssign rfl) rfl rfl ?_
  refine lNil ?_
  refine kThen ?_
  refine kRet ?_
  refine fRet rfl (.t rfl .n) ?_
  exact endX (pb, mb) trivial rfl rfl (.c 0 rfl (.c 0 rfl .n))
set_option maxRecDepth 100000 in
theorem told_bad (y : Option Addr × Nat) (p : Plt) (is : Bool) (w : World) (hm : InP w y p) (h : toldE p is ≠ 0) : Calls Try.prog 59 [.agg (pltC y p).toArray, .bool is].toArray w (Pan w (misV (toldE p is))) := by
  by_cases h1 : truthE p is = 0
  · have hk : knownP p = 0 := by
      unfold toldE at h
      rw [if_neg (not_not_intro h1)] at h
      split at h
      · assumption
      · exact absurd rfl h
    have he : toldE p is = 12 := by unfold toldE; rw [if_neg (not_not_intro h1), if_pos hk]
    rw [he]
    refine fEnter Try.func59 rfl Try.ntmps59 rfl ?_
    refine kSeq ?_
    refine kRegion rfl ?_
    refine lE rfl ?_
    refine eBoxA rfl fun n2 => ?_
    refine lV (yAssign rfl) rfl rfl ?_
    refine lNil ?_
    refine kThen ?_
    refine kSeq ?_
    refine kRegion rfl ?_
    refine lV (yLoadA (vs := [_, _, _]) rfl A26 (cOwn 0 rfl rfl)) rfl rfl ?_
    refine lV (yMove rfl) rfl rfl ?_
    refine lE rfl ?_
    refine eCallX rfl (.c rfl (.c rfl .n)) C55 (fun w hw => truth_any y p is w (hm.eff0 hw) h1) fun ⟨pb, mb⟩ _ => ?_
    refine lV (yAssign rfl) rfl rfl ?_
    refine lNil ?_
    refine kThen ?_
    refine kSeq ?_
    refine kRegion rfl ?_
    refine lV (yMove rfl) rfl rfl ?_
    refine lV (yCall rfl (.c rfl .n) C81 (fun w hw => known_any pb mb y p w (hw.blkAt 0 rfl) (hm.eff0 hw) (truthE_ok h1).1.n)) rfl rfl ?_
    refine lV (yNeq rfl rfl) rfl rfl ?_
    refine knownB (t := 11) (c := false) rfl (decide_eq_false (by rw [hk]; decide)) ?_
    refine lE rfl ?_
    refine eCallP rfl (.c rfl (.c rfl .n)) C76 (fun w hw => need_pan 12 w) ?_
    refine kThenP ?_
    exact fPan (endPan rfl)
  · have he : toldE p is = truthE p is := by unfold toldE; rw [if_pos h1]
    rw [he]
    refine fEnter Try.func59 rfl Try.ntmps59 rfl ?_
    refine kSeq ?_
    refine kRegion rfl ?_
    refine lE rfl ?_
    refine eBoxA rfl fun n2 => ?_
    refine lV (yAssign rfl) rfl rfl ?_
    refine lNil ?_
    refine kThen ?_
    refine kSeq ?_
    refine kRegion rfl ?_
    refine lV (yLoadA (vs := [_, _, _]) rfl A26 (cOwn 0 rfl rfl)) rfl rfl ?_
    refine lV (yMove rfl) rfl rfl ?_
    refine lE rfl ?_
    refine eCallP rfl (.c rfl (.c rfl .n)) C55 (fun w hw => truth_bad y p is w (hm.eff0 hw) h1) ?_
    refine kThenP ?_
    exact fPan (endPan rfl)

/-! ### The least and the greatest -/
/-- These are the ends of a set of numbers. -/
def Hull (a : Ends) (S : Int → Prop) : Prop := (a = end0 ∧ ∀ x, ¬ S x) ∨ (a.some = true ∧ S a.lo ∧ S a.hi ∧ ∀ x, S x → a.lo ≤ x ∧ x ≤ a.hi)
theorem Hull.congr {a : Ends} {S T : Int → Prop} (h : Hull a S) (e : ∀ x, S x ↔ T x) : Hull a T := by
  have : S = T := funext fun x => propext (e x)
  rw [← this]; exact h
theorem Hull.empty : Hull end0 (fun _ => False) := .inl ⟨rfl, fun _ h => h⟩
theorem Hull.keep {a : Ends} {S : Int → Prop} (h : Hull a S) (x : Int) : Hull (keepE a x) (fun y => S y ∨ y = x) := by
  rcases h with ⟨rfl, h⟩ | ⟨h1, h2, h3, h4⟩
  · refine .inr ⟨rfl, .inr rfl, .inr rfl, fun y hy => ?_⟩
    rcases hy with hy | rfl
    · exact absurd hy (h y)
    · exact ⟨Int.le_refl _, Int.le_refl _⟩
  · unfold keepE
    rw [if_pos h1]
    refine .inr ⟨rfl, ?_, ?_, fun y hy => ?_⟩
    · dsimp only
      by_cases hc : a.lo ≤ x
      · rw [Int.min_eq_left hc]; exact .inl h2
      · rw [Int.min_eq_right (by omega)]; exact .inr rfl
    · dsimp only
      by_cases hc : a.hi ≤ x
      · rw [Int.max_eq_right hc]; exact .inr rfl
      · rw [Int.max_eq_left (by omega)]; exact .inl h3
    · dsimp only
      rcases hy with hy | rfl
      · have := h4 y hy; omega
      · omega
theorem Hull.uniq {a b : Ends} {S : Int → Prop} (h : Hull a S) (h' : Hull b S) : a = b := by
  rcases h with ⟨rfl, h⟩ | ⟨h1, h2, h3, h4⟩ <;> rcases h' with ⟨rfl, h'⟩ | ⟨h1', h2', h3', h4'⟩
  · rfl
  · exact absurd h2' (h _)
  · exact absurd h2 (h' _)
  · have e1 := h4 _ h2'; have e2 := h4 _ h3'; have e3 := h4' _ h2; have e4 := h4' _ h3
    cases a; cases b
    simp only at *
    congr 1
    · omega
    · omega
    · rw [h1, h1']
/-- The ends of a list of numbers. -/
def hullE (l : List Int) : Ends := l.foldl keepE end0
theorem hullE_fold (l : List Int) : ∀ (a : Ends) (S : Int → Prop), Hull a S → Hull (l.foldl keepE a) (fun y => S y ∨ y ∈ l) := by
  induction l with
  | nil => intro a S h; exact h.congr fun x => by simp
  | cons x l ih =>
    intro a S h
    exact (ih _ _ (h.keep x)).congr fun y => by simp [or_assoc]
theorem hullE_hull (l : List Int) : Hull (hullE l) (· ∈ l) := (hullE_fold l _ _ Hull.empty).congr fun x => by simp
theorem Hull.eq {a : Ends} {S : Int → Prop} {l : List Int} (h : Hull a S) (e : ∀ x, S x ↔ x ∈ l) : a = hullE l := (h.congr e).uniq (hullE_hull l)

/-- What is kept of the entries that were handed out. -/
def SeenS (seen : Array Nat) (F : Nat → List Int) (v : Int) : Prop := ∃ i, seen.contains i = true ∧ v ∈ F i
theorem seen_push {seen : Array Nat} {j n : Nat} (h : ∀ i, seen.contains i = true → i < n) (hj : j < n) : ∀ i, (seen.push j).contains i = true → i < n := fun i hi => by
  rw [contains_push, Bool.or_eq_true] at hi
  rcases hi with hi | hi
  · exact h i hi
  · have : i = j := by simpa using hi
    omega
theorem SeenS.empty (F : Nat → List Int) : Hull end0 (SeenS #[] F) := Hull.empty.congr fun v => by simp [SeenS]
theorem SeenS.push {a : Ends} {seen : Array Nat} {F : Nat → List Int} (j : Nat) (h : Hull a (SeenS seen F)) : Hull ((F j).foldl keepE a) (SeenS (seen.push j) F) := by
  refine (hullE_fold (F j) _ _ h).congr fun v => ?_
  unfold SeenS
  constructor
  · rintro (⟨i, hi, hv⟩ | hv)
    · exact ⟨i, by rw [contains_push, hi]; rfl, hv⟩
    · exact ⟨j, by rw [contains_push]; simp, hv⟩
  · rintro ⟨i, hi, hv⟩
    rw [contains_push, Bool.or_eq_true] at hi
    rcases hi with hi | hi
    · exact .inl ⟨i, hi, hv⟩
    · have : i = j := by simpa using hi
      rw [this] at hv; exact .inr hv
theorem SeenS.all {a : Ends} {seen : Array Nat} {l : List Int} {G : Int → List Int} {n : Nat} (h : Hull a (SeenS seen fun i => G (l.getD i 0))) (hn : n = l.length) (hs : ∀ i, seen.contains i = true → i < n) (ha : ∀ i, i < n → seen.contains i = true) :
    a = hullE (l.flatMap G) := by
  refine h.eq fun v => ?_
  rw [List.mem_flatMap]
  unfold SeenS
  constructor
  · rintro ⟨i, hi, hv⟩
    exact ⟨_, getD_mem (by have := hs i hi; omega) 0, hv⟩
  · rintro ⟨x, hx, hv⟩
    obtain ⟨i, hi, rfl⟩ := List.mem_iff_getElem.1 hx
    refine ⟨i, ha i (by omega), ?_⟩
    show v ∈ G (l.getD i 0)
    rw [← List.getElem_eq_getD (h := hi)]; exact hv
theorem esP_get {p : Plt} {set k j : Nat} {v : Int × Value} (h : (esP p set k)[j]? = some v) : j < k ∧ v = ((scalesP p set).getD j 0, .agg (cornC p set ((scalesP p set).getD j 0)).toArray) := by
  unfold esP at h
  rw [List.getElem?_map] at h
  have hj : j < k := by
    cases hc : (List.range k)[j]? with
    | none => rw [hc] at h; cases h
    | some x => exact by simpa using (List.getElem?_eq_some_iff.1 hc).1
  rw [List.getElem?_range hj] at h
  simp only [Option.map_some, Option.some.injEq] at h
  exact ⟨hj, h.symm⟩

abbrev spanV (x : Int × Int) : Value := .agg (rowE x).toArray
abbrev outC (r : (Int × Int) × Int) : Value := .tuple [spanV r.1, i64 r.2].toArray
abbrev spanE (a : Ends) : Int × Int := (a.lo, a.hi)
def scaleE (p : Plt) : (Int × Int) × Int := if truthE p true ≠ 0 then ((0, 0), truthE p true) else (spanE (hullE ((scalesP p (knownP p)).flatMap fun s => [s])), 0)

set_option maxRecDepth 100000 in
theorem scale_bad (y : Option Addr × Nat) (p : Plt) (w : World) (hm : InP w y p) (h : truthE p true ≠ 0) : Calls Try.prog 15 [.agg (pltC y p).toArray].toArray w (Ret w (outC (scaleE p))) := by
  refine fEnter Try.func15 rfl Try.ntmps15 rfl ?_
  refine kSeq ?_
  refine kRegion rfl ?_
  refine lE rfl ?_
  refine eBoxA rfl fun n1 => ?_
  refine lE rfl ?_
  refine eAlloc Z23 fun n2 => ?_
  refine lE rfl ?_
  refine eAlloc Z29 fun n3 => ?_
  refine lNil ?_
  refine kThen ?_
  refine kSeq ?_
  refine kRegion rfl ?_
  refine lV (yMakeFunc .n (.c rfl .n)) rfl rfl ?_
  refine lE rfl ?_
  refine eDefer rfl .n ?_
  refine lNil ?_
  refine kThen ?_
  refine kSeq ?_
  refine kRegion rfl ?_
  refine lE rfl ?_
  refine eAlloc Z86 fun n4 => ?_
  refine lNil ?_
  refine kThen ?_
  refine kSeq ?_
  refine kRegion rfl ?_
  refine lV (yMakeFunc (.c rfl .n) .n) rfl rfl ?_
  refine lV (yAssign rfl) rfl rfl ?_
  refine lNil ?_
  refine kThen ?_
  refine kSeq ?_
  refine kSeq ?_
  refine kRegion rfl ?_
  refine lV (yLoadA (vs := [_, _, _]) rfl A26 (cOwn 3 rfl rfl)) rfl rfl ?_
  refine lE rfl ?_
  refine eCallP rfl (.c rfl (.c rfl .n)) C55 (fun w hw => truth_bad y p true w (hm.eff0 hw) h) ?_
  refine kThenP ?_
  refine kThenP ?_
  refine fPanC 1 DScale C52 rfl rfl (.cA (us := [_, _]) rfl A23 (cOwn 2 rfl rfl) (.c1 rfl O29 (cOwn 1 rfl rfl) .n)) (endRet ?_)
  simp only [packV, scaleE, if_pos h]
set_option maxRecDepth 100000 in
set_option maxHeartbeats 1000000 in
theorem scale_ok (y : Option Addr × Nat) (p : Plt) (w : World) (hm : InP w y p) (h : truthE p true = 0) : Calls Try.prog 15 [.agg (pltC y p).toArray].toArray w (Ret w (outC (scaleE p))) := by
  refine fEnter Try.func15 rfl Try.ntmps15 rfl ?_
  refine kSeq ?_
  refine kRegion rfl ?_
  refine lE rfl ?_
  refine eBoxA rfl fun n1 => ?_
  refine lE rfl ?_
  refine eAlloc Z23 fun n2 => ?_
  refine lE rfl ?_
  refine eAlloc Z29 fun n3 => ?_
  refine lNil ?_
  refine kThen ?_
  refine kSeq ?_
  refine kRegion rfl ?_
  refine lV (yMakeFunc .n (.c rfl .n)) rfl rfl ?_
  refine lE rfl ?_
  refine eDefer rfl .n ?_
  refine lNil ?_
  refine kThen ?_
  refine kSeq ?_
  refine kRegion rfl ?_
  refine lE rfl ?_
  refine eAlloc Z86 fun n4 => ?_
  refine lNil ?_
  refine kThen ?_
  refine kSeq ?_
  refine kRegion rfl ?_
  refine lV (yMakeFunc (.c rfl .n) .n) rfl rfl ?_
  refine lV (yAssign rfl) rfl rfl ?_
  refine lNil ?_
  refine kThen ?_
  refine kSeq ?_
  refine kSeq ?_
  refine kRegion rfl ?_
  refine lV (yLoadA (vs := [_, _, _]) rfl A26 (cOwn 3 rfl rfl)) rfl rfl ?_
  refine lE rfl ?_
  refine eCallX rfl (.c rfl (.c rfl .n)) C55 (fun w hw => truth_any y p true w (hm.eff0 hw) h) fun ⟨pb, mb⟩ _ => ?_
  refine lV (yNilCheckP rfl) rfl rfl ?_
  refine lV (yFieldAddr rfl F90_1) rfl rfl ?_
  refine lV (yLoad1 rfl O88 (cOwn 0 rfl rfl)) rfl rfl ?_
  refine lE rfl ?_
  refine eRange MP88 rfl (fun w hw => hw.blkAt 1 rfl) fun it => ?_
  refine lNil ?_
  refine kThen ?_
  refine kBlock ?_
  refine kLoopX (ι := Array Nat × Ends) (fun x => (∀ j, x.1.contains j = true → j < (filS p (knownP p) (nSc p)).length) ∧ Hull x.2 (SeenS x.1 fun i => [(scalesP p (knownP p)).getD i 0])) (fun x => []) [(0, _), (1, _), (2, _), (3, _), (7, _), (4, _), (8, _), (5, _), (9, _), (10, _), (11, _), (12, _), (13, _), (14, _)] (fun x => []) (fun x => [(it, itO mb (esA p (knownP p)) x.1), (n4, blk (endC x.2) 86)]) [(pb, _), (mb, _), (n3, _), (n2, _), (n1, _)] (fun x => leftN (filS p (knownP p) (nSc p)).length x.1) (#[], end0) (⟨fun j h => by simp at h, SeenS.empty _⟩) rfl .n (.c rfl (.c rfl (.c rfl (.c rfl (.c rfl (.c rfl (.c rfl (.c rfl (.c rfl (.c rfl (.c rfl (.c rfl (.c rfl (.c rfl .n)))))))))))))) (.c 1 rfl (.c 1 rfl (.c 2 rfl (.c 2 rfl (.c 2 rfl (.c 0 rfl (.c 0 rfl .n))))))) ?_
  rintro ⟨seen, a⟩ ⟨hsn, ha⟩
  dsimp only at hsn ha ⊢
  refine kSeq ?_
  refine kRegion rfl ?_
  refine lE rfl ?_
  refine eNext 5 rfl rfl (fun w hw => hw.blkAt 1 rfl) (fun hall => ?_) (fun j p hj hsj => ?_)
  · refine lV (yExtract rfl rfl) rfl rfl ?_
    refine lNil ?_
    refine kThen ?_
    refine kSeq ?_
    refine kIfF rfl ?_
    refine kExit ?_
    refine kThenX ?_
    refine kThenX ?_
    refine kInX ?_
    refine kThen ?_
    refine kSeq ?_
    refine kRegion rfl ?_
    refine lV (yLoadA (vs := [_, _, _]) rfl A86 (cOwn 6 rfl rfl)) rfl rfl ?_
    refine lV (yCall rfl (.c rfl .n) C56 (fun w hw => span_any _ w)) rfl rfl ?_
    refine lE rfl ?_
    refine eStoreL 3 rfl rfl rfl rfl K23 rfl (rfl) ?_
    refine lE rfl ?_
    refine eStoreL 2 rfl rfl rfl rfl K29 rfl (rfl) ?_
    refine lNil ?_
    refine kThen ?_
    refine kRet ?_
    refine fRetC DScale C52 rfl (.cA (us := [_, _]) rfl A23 (cOwn 3 rfl rfl) (.c1 rfl O29 (cOwn 2 rfl rfl) .n)) (endRet ?_)
    have he := SeenS.all (G := fun s => [s]) ha (scalesP_len p (knownP p)).symm hsn (fun i hi => hall i (by rw [esP_len]; exact hi))
    subst he
    simp only [packV, scaleE, if_neg (not_not_intro h)]
  · obtain ⟨hjl, rfl⟩ := esP_get hj
    refine lV (yExtract rfl rfl) rfl rfl ?_
    refine lNil ?_
    refine kThen ?_
    refine kSeq ?_
    refine kIfT rfl ?_
    refine kSkip ?_
    refine kThen ?_
    refine kBlock ?_
    refine kSeq ?_
    refine kRegion rfl ?_
    refine lV (yEntry rfl hj (fun w hw => ⟨hw.blkAt 5 rfl, hw.blkAt 1 rfl⟩)) rfl rfl ?_
    refine lV (yExtract rfl rfl) rfl rfl ?_
    refine lV (yAssign rfl) rfl rfl ?_
    refine lNil ?_
    refine kThen ?_
    refine kRegion rfl ?_
    refine lV (yMove rfl) rfl rfl ?_
    refine lV (yMove rfl) rfl rfl ?_
    refine lE rfl ?_
    refine eCallW 6 rfl rfl (.c rfl .n) C54 (fun w hw hb => keep1 _ a _ w hb) ?_
    refine lNil ?_
    refine kInN ?_
    exact kRoundX (seen.push j, keepE a ((scalesP p (knownP p)).getD j 0)) (⟨seen_push hsn hjl, SeenS.push j ha⟩) (leftN_push hjl hsj) rfl .n (.c rfl (.c rfl (.c rfl (.c rfl (.c rfl (.c rfl (.c rfl (.c rfl (.c rfl (.c rfl (.c rfl (.c rfl (.c rfl (.c rfl .n)))))))))))))) (.c 0 rfl (.c 0 rfl (.c 0 rfl (.c 0 rfl (.c 0 rfl (.c 0 rfl (.c 0 rfl .n)))))))
theorem scale_any (y : Option Addr × Nat) (p : Plt) (w : World) (hm : InP w y p) : Calls Try.prog 15 [.agg (pltC y p).toArray].toArray w (Ret w (outC (scaleE p))) := by
  by_cases h : truthE p true = 0
  · exact scale_ok y p w hm h
  · exact scale_bad y p w hm h
end Go.Proofs.Ytlcdohhhhlhpmaa
namespace Go.Proofs.Ytlcdohhhhlhpmaa
open ZW

theorem IX97_0 {a b c d : Int} (w : World) : (Instr.index 97 (.agg [i64 a, i64 b, i64 c, i64 d].toArray) (i64 0)).run Try.prog w = .ok (.agg [i64 a, i64 b].toArray) w := by kernel_rfl
theorem IX97_1 {a b c d : Int} (w : World) : (Instr.index 97 (.agg [i64 a, i64 b, i64 c, i64 d].toArray) (i64 1)).run Try.prog w = .ok (.agg [i64 c, i64 d].toArray) w := by kernel_rfl
abbrev outC2 (r : (Int × Int) × (Int × Int) × Int) : Value := .tuple [spanV r.1, spanV r.2.1, i64 r.2.2].toArray
/-- What is kept of a corner. -/
def zeroG (p : Plt) (d : Bool) (s : Int) : List Int := [(cornP p d s (knownP p)).1, (cornP p d s (knownP p)).2]
def zeroE (p : Plt) : (Int × Int) × (Int × Int) × Int := if toldE p true ≠ 0 then ((0, 0), (0, 0), toldE p true) else (spanE (hullE ((scalesP p (knownP p)).flatMap (zeroG p false))), spanE (hullE ((scalesP p (knownP p)).flatMap (zeroG p true))), 0)
set_option maxRecDepth 100000 in
theorem zero_bad (y : Option Addr × Nat) (p : Plt) (w : World) (hm : InP w y p) (h : toldE p true ≠ 0) : Calls Try.prog 17 [.agg (pltC y p).toArray].toArray w (Ret w (outC2 (zeroE p))) := by
  refine fEnter Try.func17 rfl Try.ntmps17 rfl ?_
  refine kSeq ?_
  refine kRegion rfl ?_
  refine lE rfl ?_
  refine eBoxA rfl fun n1 => ?_
  refine lE rfl ?_
  refine eAlloc Z23 fun n2 => ?_
  refine lE rfl ?_
  refine eAlloc Z23 fun n3 => ?_
  refine lE rfl ?_
  refine eAlloc Z29 fun n4 => ?_
  refine lNil ?_
  refine kThen ?_
  refine kSeq ?_
  refine kRegion rfl ?_
  refine lV (yMakeFunc .n (.c rfl .n)) rfl rfl ?_
  refine lE rfl ?_
  refine eDefer rfl .n ?_
  refine lNil ?_
  refine kThen ?_
  refine kSeq ?_
  refine kRegion rfl ?_
  refine lE rfl ?_
  refine eAlloc Z96 fun n5 => ?_
  refine lNil ?_
  refine kThen ?_
  refine kSeq ?_
  refine kSeq ?_
  refine kRegion rfl ?_
  refine lV (yLoadA (vs := [_, _, _]) rfl A26 (cOwn 4 rfl rfl)) rfl rfl ?_
  refine lE rfl ?_
  refine eCallP rfl (.c rfl (.c rfl .n)) C59 (fun w hw => told_bad y p true w (hm.eff0 hw) h) ?_
  refine kThenP ?_
  refine kThenP ?_
  refine fPanC 1 DZero C58 rfl rfl (.cA (us := [_, _]) rfl A23 (cOwn 3 rfl rfl) (.cA (us := [_, _]) rfl A23 (cOwn 2 rfl rfl) (.c1 rfl O29 (cOwn 1 rfl rfl) .n))) (endRet ?_)
  simp only [packV, zeroE, if_pos h]
set_option maxRecDepth 100000 in
set_option maxHeartbeats 2000000 in
theorem zero_ok (y : Option Addr × Nat) (p : Plt) (w : World) (hm : InP w y p) (h : toldE p true = 0) : Calls Try.prog 17 [.agg (pltC y p).toArray].toArray w (Ret w (outC2 (zeroE p))) := by
  refine fEnter Try.func17 rfl Try.ntmps17 rfl ?_
  refine kSeq ?_
  refine kRegion rfl ?_
  refine lE rfl ?_
  refine eBoxA rfl fun n1 => ?_
  refine lE rfl ?_
  refine eAlloc Z23 fun n2 => ?_
  refine lE rfl ?_
  refine eAlloc Z23 fun n3 => ?_
  refine lE rfl ?_
  refine eAlloc Z29 fun n4 => ?_
  refine lNil ?_
  refine kThen ?_
  refine kSeq ?_
  refine kRegion rfl ?_
  refine lV (yMakeFunc .n (.c rfl .n)) rfl rfl ?_
  refine lE rfl ?_
  refine eDefer rfl .n ?_
  refine lNil ?_
  refine kThen ?_
  refine kSeq ?_
  refine kRegion rfl ?_
  refine lE rfl ?_
  refine eAlloc Z96 fun n5 => ?_
  refine lNil ?_
  refine kThen ?_
  refine kSeq ?_
  refine kSeq ?_
  refine kRegion rfl ?_
  refine lV (yLoadA (vs := [_, _, _]) rfl A26 (cOwn 4 rfl rfl)) rfl rfl ?_
  refine lE rfl ?_
  refine eCallX rfl (.c rfl (.c rfl .n)) C59 (fun w hw => told_any y p true w (hm.eff0 hw) h) fun ⟨pb, mb⟩ _ => ?_
  refine lV (yNilCheckP rfl) rfl rfl ?_
  refine lV (yFieldAddr rfl F90_1) rfl rfl ?_
  refine lV (yLoad1 rfl O88 (cOwn 0 rfl rfl)) rfl rfl ?_
  refine lE rfl ?_
  refine eRange MP88 rfl (fun w hw => hw.blkAt 1 rfl) fun it => ?_
  refine lNil ?_
  refine kThen ?_
  refine kBlock ?_
  refine kLoopX (ι := Array Nat × Ends × Ends) (fun x => (∀ j, x.1.contains j = true → j < (filS p (knownP p) (nSc p)).length) ∧ Hull x.2.1 (SeenS x.1 fun i => zeroG p false ((scalesP p (knownP p)).getD i 0)) ∧ Hull x.2.2 (SeenS x.1 fun i => zeroG p true ((scalesP p (knownP p)).getD i 0))) (fun x => []) [(0, _), (1, _), (2, _), (3, _), (4, _), (10, _), (5, _), (11, _), (12, _), (13, _), (14, _), (15, _), (16, _)] (fun x => []) (fun x => [(it, itO mb (esA p (knownP p)) x.1), (n5, blk (endC2 x.2.1 x.2.2) 96)]) [(pb, _), (mb, _), (n4, _), (n3, _), (n2, _), (n1, _)] (fun x => leftN (filS p (knownP p) (nSc p)).length x.1) (#[], end0, end0) (⟨fun j h => by simp at h, SeenS.empty _, SeenS.empty _⟩) rfl .n (.c rfl (.c rfl (.c rfl (.c rfl (.c rfl (.c rfl (.c rfl (.c rfl (.c rfl (.c rfl (.c rfl (.c rfl (.c rfl .n))))))))))))) (.c 1 rfl (.c 1 rfl (.c 2 rfl (.c 2 rfl (.c 2 rfl (.c 2 rfl (.c 0 rfl (.c 0 rfl .n)))))))) ?_
  rintro ⟨seen, a, b⟩ ⟨hsn, ha, hb⟩
  dsimp only at hsn ha hb ⊢
  refine kSeq ?_
  refine kRegion rfl ?_
  refine lE rfl ?_
  refine eNext 6 rfl rfl (fun w hw => hw.blkAt 1 rfl) (fun hall => ?_) (fun j p hj hsj => ?_)
  · refine lV (yExtract rfl rfl) rfl rfl ?_
    refine lNil ?_
    refine kThen ?_
    refine kSeq ?_
    refine kIfF rfl ?_
    refine kExit ?_
    refine kThenX ?_
    refine kThenX ?_
    refine kInX ?_
    refine kThen ?_
    refine kSeq ?_
    refine kDrawE [(1, none), (2, none), (4, none), (5, none)] [] [0, 1, 2, 3, 4, 5] 3 hMix (by kernel_rfl) ?_
    refine .run rfl (yIndexAr rfl rfl R96 (by omega) (by omega)) rfl rfl ?_
    refine .run rfl (yLoadA (vs := [_, _, _]) rfl A86 (cOwn 7 rfl rfl)) rfl rfl ?_
    refine .run rfl (yCall rfl (.c rfl .n) C56 (fun w hw => span_any _ w)) rfl rfl ?_
    refine .run rfl (yIndexAr rfl rfl R96 (by omega) (by omega)) rfl rfl ?_
    refine .run rfl (yLoadA (vs := [_, _, _]) rfl A86 (cOwn 7 rfl rfl)) rfl rfl ?_
    refine .run rfl (yCall rfl (.c rfl .n) C56 (fun w hw => span_any _ w)) rfl rfl ?_
    refine .done ?_
    refine effStep 6 [] (by kernel_rfl) closedSt (hLeft [1, 2, 4, 5] (by kernel_rfl) (.c (fun _ _ hs => hs.ef) (.c (fun _ _ hs => hs.ef) (.c (fun _ _ hs => hs.ef) (.c (fun _ _ hs => hs.ef) .n))))) ?_
    refine .c ?_ .n
    refine effOne rfl (gNone rfl (fStoreL 4 rfl rfl rfl rfl K23 rfl (rfl))) ?_
    refine effStep 7 [] (by kernel_rfl) closedSt (hLeft [] (by kernel_rfl) .n) ?_
    refine .c ?_ .n
    refine effOne rfl (gNone rfl (fStoreL 3 rfl rfl rfl rfl K23 rfl (rfl))) ?_
    refine effStep 8 [] (by kernel_rfl) closedSt (hLeft [] (by kernel_rfl) .n) ?_
    refine .c ?_ .n
    refine effOne rfl (gNone rfl (fStoreL 2 rfl rfl rfl rfl K29 rfl (rfl))) ?_
    refine effDone closedSt (hLeft [] (by kernel_rfl) .n) (by kernel_rfl) ?_
    refine kThen ?_
    refine kRet ?_
    refine fRetC DZero C58 rfl (.cA (us := [_, _]) rfl A23 (cOwn 4 rfl rfl) (.cA (us := [_, _]) rfl A23 (cOwn 3 rfl rfl) (.c1 rfl O29 (cOwn 2 rfl rfl) .n))) (endRet ?_)
    have e1 := SeenS.all (G := zeroG p false) ha (scalesP_len p (knownP p)).symm hsn (fun i hi => hall i (by rw [esP_len]; exact hi))
    have e2 := SeenS.all (G := zeroG p true) hb (scalesP_len p (knownP p)).symm hsn (fun i hi => hall i (by rw [esP_len]; exact hi))
    subst e1 e2
    simp only [packV, zeroE, if_neg (not_not_intro h)]
  · obtain ⟨hjl, rfl⟩ := esP_get hj
    refine lV (yExtract rfl rfl) rfl rfl ?_
    refine lNil ?_
    refine kThen ?_
    refine kSeq ?_
    refine kIfT rfl ?_
    refine kSkip ?_
    refine kThen ?_
    refine kBlock ?_
    refine kSeq ?_
    refine kRegion rfl ?_
    refine lV (yEntry rfl hj (fun w hw => ⟨hw.blkAt 6 rfl, hw.blkAt 1 rfl⟩)) rfl rfl ?_
    refine lV (yExtract rfl rfl) rfl rfl ?_
    refine lE rfl ?_
    refine eAlloc Z97 fun n7 => ?_
    refine lE rfl ?_
    refine eStoreL 0 rfl rfl rfl rfl K97 rfl (rfl) ?_
    refine lNil ?_
    refine kThen ?_
    refine kSeq ?_
    refine kRegion rfl ?_
    refine lV (yLoadA (vs := [_, _, _, _]) rfl A97 (cOwn 0 rfl rfl)) rfl rfl ?_
    refine lV (yMove rfl) rfl rfl ?_
    refine lNil ?_
    refine kThen ?_
    refine kBlock ?_
    refine kLoopX (ι := Nat) (fun k => k ≤ 2) (fun k => [(22, i64 (k : Nat))]) [(0, _), (1, _), (2, _), (3, _), (4, _), (10, _), (5, _), (11, _), (12, _), (13, _), (14, _), (15, _), (16, _), (17, _), (18, _), (19, _), (20, _), (7, _), (21, _)] (fun k => []) (fun k => [(n5, blk (endC2 (cond (Nat.blt 0 k) ((zeroG p false ((scalesP p (knownP p)).getD j 0)).foldl keepE a) a) (cond (Nat.blt 1 k) ((zeroG p true ((scalesP p (knownP p)).getD j 0)).foldl keepE b) b)) 96)]) [(n7, _), (pb, _), (mb, _), (n4, _), (n3, _), (n2, _), (n1, _), (it, _)] (fun k => 2 - k) 0 (by omega) rfl (.c rfl .n) (.c rfl (.c rfl (.c rfl (.c rfl (.c rfl (.c rfl (.c rfl (.c rfl (.c rfl (.c rfl (.c rfl (.c rfl (.c rfl (.c rfl (.c rfl (.c rfl (.c rfl (.c rfl (.c rfl .n))))))))))))))))))) (.c 0 rfl (.c 0 rfl (.c 0 rfl (.c 0 rfl (.c 0 rfl (.c 0 rfl (.c 0 rfl (.c 0 rfl (.c 0 rfl .n))))))))) ?_
    rintro k hk
    refine kSeq ?_
    refine kRegion rfl ?_
    refine lV (yLss rfl rfl) rfl rfl ?_
    refine lNil ?_
    refine kThen ?_
    refine kSeq ?_
    refine split (t := 23) rfl (fun h23 => ?_) (fun h23 => ?_)
    · refine kIfT rfl ?_
      refine kSkip ?_
      refine kThen ?_
      refine kSeq ?_
      refine kBlock ?_
      refine kSeq ?_
      by_cases hk0 : k = 0
      · subst hk0
        refine kRegion rfl ?_
        refine lV (yMove rfl) rfl rfl ?_
        refine lV (yIndexV rfl rfl (fun w => IX97_0 w)) rfl rfl ?_
        refine lE rfl ?_
        refine eAlloc Z23 fun n9 => ?_
        refine lV (yAssign rfl) rfl rfl ?_
        refine lE rfl ?_
        refine eStoreL 0 rfl rfl rfl rfl K23 rfl (rfl) ?_
        refine lNil ?_
        refine kThen ?_
        refine kSeq ?_
        refine kDrawE [(3, none)] [] [0, 1, 2, 3] 1 hMix (by kernel_rfl) ?_
        refine .run rfl (yMove rfl) rfl rfl ?_
        refine .run rfl (yIndexAr rfl rfl R96 (by omega) (by omega)) rfl rfl ?_
        refine .run rfl (yFieldAddr rfl F23_0) rfl rfl ?_
        refine .run rfl (yLoad1 rfl O3 (cOwn 0 rfl rfl)) rfl rfl ?_
        refine .done ?_
        refine effStep 4 [] (by kernel_rfl) closedSt (hLeft [3] (by kernel_rfl) (.c (fun _ _ hs => hs.ef) .n)) ?_
        refine .c ?_ .n
        refine effOne rfl (gNone rfl (eCallW 9 rfl rfl (.c rfl (.c rfl .n)) C54 (fun w hw hb => keepA _ a b _ w hb) trSelf)) ?_
        refine effDone closedSt (hLeft [] (by kernel_rfl) .n) (by kernel_rfl) ?_
        refine kThen ?_
        refine kDrawE [(3, none)] [] [0, 1, 2, 3] 1 hMix (by kernel_rfl) ?_
        refine .run rfl (yMove rfl) rfl rfl ?_
        refine .run rfl (yIndexAr rfl rfl R96 (by omega) (by omega)) rfl rfl ?_
        refine .run rfl (yFieldAddr rfl F23_1) rfl rfl ?_
        refine .run rfl (yLoad1 rfl O3 (cOwn 0 rfl rfl)) rfl rfl ?_
        refine .done ?_
        refine effStep 4 [] (by kernel_rfl) closedSt (hLeft [3] (by kernel_rfl) (.c (fun _ _ hs => hs.ef) .n)) ?_
        refine .c ?_ .n
        refine effOne rfl (gNone rfl (eCallW 9 rfl rfl (.c rfl (.c rfl .n)) C54 (fun w hw hb => keepA _ _ b _ w hb) trSelf)) ?_
        refine effDone closedSt (hLeft [] (by kernel_rfl) .n) (by kernel_rfl) ?_
        refine kInN ?_
        refine kThen ?_
        refine kRegion rfl ?_
        refine lV (yAdd rfl rfl (by omega)) rfl rfl ?_
        refine lV (yMove rfl) rfl rfl ?_
        refine lNil ?_
        exact kRoundX 1 (by omega) (by omega) rfl (.c rfl .n) (.c rfl (.c rfl (.c rfl (.c rfl (.c rfl (.c rfl (.c rfl (.c rfl (.c rfl (.c rfl (.c rfl (.c rfl (.c rfl (.c rfl (.c rfl (.c rfl (.c rfl (.c rfl (.c rfl .n))))))))))))))))))) (.c 1 rfl (.c 1 rfl (.c 1 rfl (.c 1 rfl (.c 1 rfl (.c 1 rfl (.c 1 rfl (.c 1 rfl (.c 1 rfl .n)))))))))
      · obtain rfl : k = 1 := by omega
        refine kRegion rfl ?_
        refine lV (yMove rfl) rfl rfl ?_
        refine lV (yIndexV rfl rfl (fun w => IX97_1 w)) rfl rfl ?_
        refine lE rfl ?_
        refine eAlloc Z23 fun n9 => ?_
        refine lV (yAssign rfl) rfl rfl ?_
        refine lE rfl ?_
        refine eStoreL 0 rfl rfl rfl rfl K23 rfl (rfl) ?_
        refine lNil ?_
        refine kThen ?_
        refine kSeq ?_
        refine kDrawE [(3, none)] [] [0, 1, 2, 3] 1 hMix (by kernel_rfl) ?_
        refine .run rfl (yMove rfl) rfl rfl ?_
        refine .run rfl (yIndexAr rfl rfl R96 (by omega) (by omega)) rfl rfl ?_
        refine .run rfl (yFieldAddr rfl F23_0) rfl rfl ?_
        refine .run rfl (yLoad1 rfl O3 (cOwn 0 rfl rfl)) rfl rfl ?_
        refine .done ?_
        refine effStep 4 [] (by kernel_rfl) closedSt (hLeft [3] (by kernel_rfl) (.c (fun _ _ hs => hs.ef) .n)) ?_
        refine .c ?_ .n
        refine effOne rfl (gNone rfl (eCallW 9 rfl rfl (.c rfl (.c rfl .n)) C54 (fun w hw hb => keepB _ _ b _ w hb) trSelf)) ?_
        refine effDone closedSt (hLeft [] (by kernel_rfl) .n) (by kernel_rfl) ?_
        refine kThen ?_
        refine kDrawE [(3, none)] [] [0, 1, 2, 3] 1 hMix (by kernel_rfl) ?_
        refine .run rfl (yMove rfl) rfl rfl ?_
        refine .run rfl (yIndexAr rfl rfl R96 (by omega) (by omega)) rfl rfl ?_
        refine .run rfl (yFieldAddr rfl F23_1) rfl rfl ?_
        refine .run rfl (yLoad1 rfl O3 (cOwn 0 rfl rfl)) rfl rfl ?_
        refine .done ?_
        refine effStep 4 [] (by kernel_rfl) closedSt (hLeft [3] (by kernel_rfl) (.c (fun _ _ hs => hs.ef) .n)) ?_
        refine .c ?_ .n
        refine effOne rfl (gNone rfl (eCallW 9 rfl rfl (.c rfl (.c rfl .n)) C54 (fun w hw hb => keepB _ _ _ _ w hb) trSelf)) ?_
        refine effDone closedSt (hLeft [] (by kernel_rfl) .n) (by kernel_rfl) ?_
        refine kInN ?_
        refine kThen ?_
        refine kRegion rfl ?_
        refine lV (yAdd rfl rfl (by omega)) rfl rfl ?_
        refine lV (yMove rfl) rfl rfl ?_
        refine lNil ?_
        exact kRoundX 2 (by omega) (by omega) rfl (.c rfl .n) (.c rfl (.c rfl (.c rfl (.c rfl (.c rfl (.c rfl (.c rfl (.c rfl (.c rfl (.c rfl (.c rfl (.c rfl (.c rfl (.c rfl (.c rfl (.c rfl (.c rfl (.c rfl (.c rfl .n))))))))))))))))))) (.c 1 rfl (.c 1 rfl (.c 1 rfl (.c 1 rfl (.c 1 rfl (.c 1 rfl (.c 1 rfl (.c 1 rfl (.c 1 rfl .n)))))))))
    · refine kIfF rfl ?_
      refine kExit ?_
      refine kThenX ?_
      refine kThenX ?_
      refine kInX ?_
      refine kInN ?_
      obtain rfl : k = 2 := by omega
      exact kRoundX (seen.push j, (zeroG p false ((scalesP p (knownP p)).getD j 0)).foldl keepE a, (zeroG p true ((scalesP p (knownP p)).getD j 0)).foldl keepE b) (⟨seen_push hsn hjl, SeenS.push j ha, SeenS.push j hb⟩) (leftN_push hjl hsj) rfl .n (.c rfl (.c rfl (.c rfl (.c rfl (.c rfl (.c rfl (.c rfl (.c rfl (.c rfl (.c rfl (.c rfl (.c rfl (.c rfl .n))))))))))))) (.c 1 rfl (.c 1 rfl (.c 1 rfl (.c 1 rfl (.c 1 rfl (.c 1 rfl (.c 1 rfl (.c 1 rfl .n))))))))
theorem zero_any (y : Option Addr × Nat) (p : Plt) (w : World) (hm : InP w y p) : Calls Try.prog 17 [.agg (pltC y p).toArray].toArray w (Ret w (outC2 (zeroE p))) := by
  by_cases h : toldE p true = 0
  · exact zero_ok y p w hm h
  · exact zero_bad y p w hm h
end Go.Proofs.Ytlcdohhhhlhpmaa
namespace Go.Proofs.Ytlcdohhhhlhpmaa
open ZW

/-- Where a star is along a direction, with a scale and a corner. -/
def placeP (d : Bool) (s : StarV) (sc c : Int) : Int × Int :=
  if s.k = true then (max (c + (longP sc (imgD d s)).1) (saidD d s).1, min (c + (longP sc (imgD d s)).2) (saidD d s).2) else (c + (longP sc (imgD d s)).1, c + (longP sc (imgD d s)).2)
theorem long_bd {d : Bool} {s : StarV} {sc : Int} (hs : starOk s) (hsc : 0 ≤ sc ∧ sc ≤ 1000) : (0 ≤ (longP sc (imgD d s)).1 ∧ (longP sc (imgD d s)).1 ≤ 32768) ∧ 0 ≤ (longP sc (imgD d s)).2 ∧ (longP sc (imgD d s)).2 ≤ 32768 := by
  have h3 := img_ok (d := d) hs
  have h4 := mul_bd hsc (b := (imgD d s).1) (by unfold spanOk at h3; omega)
  have h5 := mul_bd hsc (b := (imgD d s).2) (by unfold spanOk at h3; omega)
  unfold longP
  omega
set_option maxRecDepth 100000 in
set_option maxHeartbeats 2000000 in
theorem place_any (pb : Nat) (d : Bool) (s : StarV) (sc c : Int) (w : World) (hs : starOk s) (hsc : 0 ≤ sc ∧ sc ≤ 1000) (hc : -10000000000000 ≤ c ∧ c ≤ 10000000000000) : Calls Try.prog 105 [.agg (wayC pb d).toArray, .agg (rowS s).toArray, i64 sc, i64 c].toArray w (Ret w (.tuple [i64 (placeP d s sc c).1, i64 (placeP d s sc c).2].toArray)) := by
  have hl := long_bd (d := d) hs hsc
  refine fEnter Try.func105 rfl Try.ntmps105 rfl ?_
  refine kSeq ?_
  refine kRegion rfl ?_
  refine lE rfl ?_
  refine eBoxA rfl fun n4 => ?_
  refine lE rfl ?_
  refine eBoxA rfl fun n5 => ?_
  refine lV (yAssign rfl) rfl rfl ?_
  refine lV (yAssign rfl) rfl rfl ?_
  refine lNil ?_
  refine kThen ?_
  refine kSeq ?_
  refine kRegion rfl ?_
  refine lV (yLoadA (vs := [_, _, _]) rfl A103 (cOwn 1 rfl rfl)) rfl rfl ?_
  refine lV (yMove rfl) rfl rfl ?_
  refine lV (yLoadA (vs := [_, _, _, _, _, _, _, _, _]) rfl A58 (cOwn 0 rfl rfl)) rfl rfl ?_
  refine lV (yCall rfl (.c rfl (.c rfl (.c rfl .n))) C111 (fun w hw => long_any pb d sc s w hsc (img_ok hs))) rfl rfl ?_
  refine lE rfl ?_
  refine eAlloc Z23 fun n10 => ?_
  refine lE rfl ?_
  refine eStoreL 0 rfl rfl rfl rfl K23 rfl (rfl) ?_
  refine lNil ?_
  refine kThen ?_
  refine kSeq ?_
  refine kDrawE [(2, none), (6, none)] [] [0, 1, 2, 3, 4, 5, 6, 7, 8, 9] 0 hMix (by kernel_rfl) ?_
  refine .run rfl (yMove rfl) rfl rfl ?_
  refine .run rfl (yFieldAddr rfl F23_0) rfl rfl ?_
  refine .run rfl (yLoad1 rfl O3 (cOwn 0 rfl rfl)) rfl rfl ?_
  refine .run rfl (yAdd rfl rfl (by omega)) rfl rfl ?_
  refine .run rfl (yMove rfl) rfl rfl ?_
  refine .run rfl (yFieldAddr rfl F23_1) rfl rfl ?_
  refine .run rfl (yLoad1 rfl O3 (cOwn 0 rfl rfl)) rfl rfl ?_
  refine .run rfl (yAdd rfl rfl (by omega)) rfl rfl ?_
  refine .run rfl (yAssign rfl) rfl rfl ?_
  refine .run rfl (yAssign rfl) rfl rfl ?_
  refine .done ?_
  refine effDone closedSt (hLeft [2, 6] (by kernel_rfl) (.c (fun _ _ hs => hs.ef) (.c (fun _ _ hs => hs.ef) .n))) (by kernel_rfl) ?_
  refine kThen ?_
  refine kSeq ?_
  refine kSeq ?_
  refine kRegion rfl ?_
  refine lV (yFieldAddr rfl F58_2) rfl rfl ?_
  refine lV (yLoad1 rfl O4 (cOwn 1 rfl rfl)) rfl rfl ?_
  refine splitB (t := 24) rfl (fun h24 => ?_) (fun h24 => ?_)
  · refine lNil ?_
    refine kThen ?_
    refine kIfT rfl ?_
    refine kDrawE [(2, none), (3, none), (4, none), (9, none), (10, none), (11, none)] [] [0, 1, 2, 3, 4, 5, 6, 7, 8, 9, 10, 11, 12, 13] 2 hMix (by kernel_rfl) ?_
    refine .run rfl (yMove rfl) rfl rfl ?_
    refine .run rfl (yFieldAddr rfl F103_2) rfl rfl ?_
    refine .run rfl (yLoad1 rfl O101 (cOwn 2 rfl rfl)) rfl rfl ?_
    refine .run rfl (yLoadA (vs := [_, _, _, _, _, _, _, _, _]) rfl A58 (cOwn 1 rfl rfl)) rfl rfl ?_
    refine .run rfl (yCall rfl (.c rfl .n) (said_c d) (fun w hw => said_any d s w)) rfl rfl ?_
    refine .run rfl (yField rfl (fun w => FD23_0 w)) rfl rfl ?_
    refine .run rfl (yMax rfl rfl) rfl rfl ?_
    refine .run rfl (yMove rfl) rfl rfl ?_
    refine .run rfl (yFieldAddr rfl F103_2) rfl rfl ?_
    refine .run rfl (yLoad1 rfl O101 (cOwn 2 rfl rfl)) rfl rfl ?_
    refine .run rfl (yLoadA (vs := [_, _, _, _, _, _, _, _, _]) rfl A58 (cOwn 1 rfl rfl)) rfl rfl ?_
    refine .run rfl (yCall rfl (.c rfl .n) (said_c d) (fun w hw => said_any d s w)) rfl rfl ?_
    refine .run rfl (yField rfl (fun w => FD23_1 w)) rfl rfl ?_
    refine .run rfl (yMin rfl rfl) rfl rfl ?_
    refine .done ?_
    refine effStep 14 [] (by kernel_rfl) closedSt (hLeft [2, 3, 4, 9, 10, 11] (by kernel_rfl) (.c (fun _ _ hs => hs.ef) (.c (fun _ _ hs => hs.ef) (.c (fun _ _ hs => hs.ef) (.c (fun _ _ hs => hs.ef) (.c (fun _ _ hs => hs.ef) (.c (fun _ _ hs => hs.ef) .n))))))) ?_
    refine .c ?_ .n
    refine effOne rfl (gNone rfl (fV (yAssign rfl) rfl)) ?_
    refine effStep 15 [] (by kernel_rfl) closedSt (hLeft [] (by kernel_rfl) .n) ?_
    refine .c ?_ .n
    refine effOne rfl (gNone rfl (fV (yAssign rfl) rfl)) ?_
    refine effDone closedSt (hLeft [] (by kernel_rfl) .n) (by kernel_rfl) ?_
    refine kThen ?_
    refine kSeq ?_
    refine kRegion rfl ?_
    refine lV (yMove rfl) rfl rfl ?_
    refine lV (yMove rfl) rfl rfl ?_
    refine lV (yAssign rfl) rfl rfl ?_
    refine lV (yAssign rfl) rfl rfl ?_
    refine lNil ?_
    refine kThen ?_
    refine kRet ?_
    refine fRet rfl (.t rfl (.t rfl .n)) (endRet ?_)
    simp only [packV, placeP, if_pos h24]
  · refine lNil ?_
    refine kThen ?_
    refine kIfF rfl ?_
    refine kSkip ?_
    refine kThen ?_
    refine kSeq ?_
    refine kRegion rfl ?_
    refine lV (yMove rfl) rfl rfl ?_
    refine lV (yMove rfl) rfl rfl ?_
    refine lV (yAssign rfl) rfl rfl ?_
    refine lV (yAssign rfl) rfl rfl ?_
    refine lNil ?_
    refine kThen ?_
    refine kRet ?_
    refine fRet rfl (.t rfl (.t rfl .n)) (endRet ?_)
    simp only [packV, placeP]; rw [if_neg (by rw [h24]; decide)]
theorem cornT_bd (p : Plt) (d : Bool) (sc : Int) (set : Nat) : ∀ n, -1099511627776 ≤ (cornT p d sc set n).1 ∧ (cornT p d sc set n).2 ≤ 1099511627776
  | 0 => ⟨Int.le_refl _, Int.le_refl _⟩
  | n + 1 => by
    have ih := cornT_bd p d sc set n
    rw [cornT_succ]
    split
    · unfold cornS; dsimp only; omega
    · exact ih
theorem scalesP_mem {p : Plt} {set : Nat} {s : Int} : s ∈ scalesP p set ↔ (p.sc.1 ≤ s ∧ s ≤ p.sc.2) ∧ okAt p set s = true := by
  unfold scalesP filS nSc
  rw [List.mem_map]
  constructor
  · rintro ⟨j, hj, rfl⟩
    rw [List.mem_filter, List.mem_range] at hj
    exact ⟨by omega, hj.2⟩
  · rintro ⟨h1, h2⟩
    refine ⟨(s - p.sc.1).toNat, ?_, by omega⟩
    rw [List.mem_filter, List.mem_range]
    refine ⟨by omega, ?_⟩
    rw [show p.sc.1 + (((s - p.sc.1).toNat : Nat) : Int) = s from by omega]; exact h2
theorem okAt_iff {p : Plt} {set : Nat} {s : Int} : okAt p set s = true ↔ ∀ d, (cornP p d s set).1 ≤ (cornP p d s set).2 := by
  unfold okAt
  rw [Bool.and_eq_true, decide_eq_true_eq, decide_eq_true_eq]
  exact ⟨fun h d => by cases d; (· exact h.1); exact h.2, fun h => ⟨h false, h true⟩⟩
theorem corn_bd {p : Plt} {set : Nat} {s : Int} (h : okAt p set s = true) (d : Bool) : (-1099511627776 ≤ (cornP p d s set).1 ∧ (cornP p d s set).1 ≤ 1099511627776) ∧ -1099511627776 ≤ (cornP p d s set).2 ∧ (cornP p d s set).2 ≤ 1099511627776 := by
  have h1 := okAt_iff.1 h d
  have h2 := cornT_bd p d s set p.st.length
  unfold cornP at *
  omega
/-- The scale of an entry. -/
theorem entry_ok {p : Plt} {set j : Nat} (hp : PltOk p) (hj : j < (filS p set (nSc p)).length) : (0 ≤ (scalesP p set).getD j 0 ∧ (scalesP p set).getD j 0 ≤ 1000) ∧ okAt p set ((scalesP p set).getD j 0) = true := by
  have h := scalesP_mem.1 (getD_mem (l := scalesP p set) (i := j) (by rw [scalesP_len]; exact hj) 0)
  have hc := hp.c
  unfold spanOk at hc
  exact ⟨by omega, h.2⟩

theorem IX104_0 {a b : Option Addr} {c d e f : Fn} (w : World) : (Instr.index 104 (.agg [.pointer a, .func c #[] #[], .func d #[] #[], .pointer b, .func e #[] #[], .func f #[] #[]].toArray) (i64 0)).run Try.prog w = .ok (.agg [.pointer a, .func c #[] #[], .func d #[] #[]].toArray) w := by kernel_rfl
theorem IX104_1 {a b : Option Addr} {c d e f : Fn} (w : World) : (Instr.index 104 (.agg [.pointer a, .func c #[] #[], .func d #[] #[], .pointer b, .func e #[] #[], .func f #[] #[]].toArray) (i64 1)).run Try.prog w = .ok (.agg [.pointer b, .func e #[] #[], .func f #[] #[]].toArray) w := by kernel_rfl

/-- What is kept of a star. -/
def starG (p : Plt) (n : Nat) (d : Bool) (s : Int) : List Int := [(placeP d (p.st.getD n star0) s (cornP p d s (knownP p)).1).1, (placeP d (p.st.getD n star0) s (cornP p d s (knownP p)).2).2]
def starH (p : Plt) (n : Nat) (d : Bool) : Ends := hullE ((scalesP p (knownP p)).flatMap (starG p n d))

set_option maxRecDepth 100000 in
set_option maxHeartbeats 4000000 in
theorem starW_any (pb mb n : Nat) (y : Option Addr × Nat) (p : Plt) (w : World) (hpb : w.heap[pb]? = some (blk (lookC y p mb) 90)) (hmb : w.heap[mb]? = some (mapO .i64 (esA p (knownP p)))) (hm : InP w y p) (hp : PltOk p) (hn : n < p.st.length) :
    Calls Try.prog 65 [.pointer (some ⟨pb, 0, none⟩), i64 (n : Nat)].toArray w (Ret w (.agg (endC2 (starH p n false) (starH p n true)).toArray)) := by
  have hst := hp.s _ (getD_mem hn star0)
  have hpn := hp.n
  refine fEnter Try.func65 rfl Try.ntmps65 rfl ?_
  refine kSeq ?_
  refine kRegion rfl ?_
  refine lE rfl ?_
  refine eAlloc Z96 fun n4 => ?_
  refine lNil ?_
  refine kThen ?_
  refine kSeq ?_
  refine kSeq ?_
  refine kRegion rfl ?_
  refine lV (yMove rfl) rfl rfl ?_
  refine lV (yNilCheckP rfl) rfl rfl ?_
  refine lV (yFieldAddr rfl F90_1) rfl rfl ?_
  refine lV (yLoad1 rfl O88 (cOldB (hpb) rfl)) rfl rfl ?_
  refine lE rfl ?_
  refine eRange MP88 rfl (fun w hw => hw.old' hmb) fun it => ?_
  refine lNil ?_
  refine kThen ?_
  refine kBlock ?_
  refine kLoopX (ι := Array Nat × Ends × Ends) (fun x => (∀ j, x.1.contains j = true → j < (filS p (knownP p) (nSc p)).length) ∧ Hull x.2.1 (SeenS x.1 fun i => starG p n false ((scalesP p (knownP p)).getD i 0)) ∧ Hull x.2.2 (SeenS x.1 fun i => starG p n true ((scalesP p (knownP p)).getD i 0))) (fun x => []) [(0, _), (1, _), (4, _), (13, _), (14, _), (15, _), (16, _), (17, _)] (fun x => []) (fun x => [(it, itO mb (esA p (knownP p)) x.1), (n4, blk (endC2 x.2.1 x.2.2) 96)]) [] (fun x => leftN (filS p (knownP p) (nSc p)).length x.1) (#[], end0, end0) (⟨fun j h => by simp at h, SeenS.empty _, SeenS.empty _⟩) rfl .n (.c rfl (.c rfl (.c rfl (.c rfl (.c rfl (.c rfl (.c rfl (.c rfl .n)))))))) (.c 0 rfl (.c 0 rfl .n)) ?_
  rintro ⟨seen, a, b⟩ ⟨hsn, ha, hb⟩
  dsimp only at hsn ha hb ⊢
  refine kSeq ?_
  refine kRegion rfl ?_
  refine lE rfl ?_
  refine eNext 0 rfl rfl (fun w hw => hw.old' hmb) (fun hall => ?_) (fun j p hj hsj => ?_)
  · refine lV (yExtract rfl rfl) rfl rfl ?_
    refine lNil ?_
    refine kThen ?_
    refine kSeq ?_
    refine kIfF rfl ?_
    refine kExit ?_
    refine kThenX ?_
    refine kThenX ?_
    refine kInX ?_
    refine kThen ?_
    refine kSeq ?_
    refine kRegion rfl ?_
    refine lV (yLoadA (vs := [_, _, _, _, _, _]) rfl A96 (cOwn 1 rfl rfl)) rfl rfl ?_
    refine lE rfl ?_
    refine eStoreL 1 rfl rfl rfl rfl K96 rfl (rfl) ?_
    refine lNil ?_
    refine kThen ?_
    refine kRet ?_
    refine fRet rfl (.cA (us := [_, _, _, _, _, _]) rfl A96 (cOwn 1 rfl rfl) .n) (endRet ?_)
    have e1 := SeenS.all (G := starG p n false) ha (scalesP_len p (knownP p)).symm hsn (fun i hi => hall i (by rw [esP_len]; exact hi))
    have e2 := SeenS.all (G := starG p n true) hb (scalesP_len p (knownP p)).symm hsn (fun i hi => hall i (by rw [esP_len]; exact hi))
    subst e1 e2
    rfl
  · obtain ⟨hjl, rfl⟩ := esP_get hj
    have heo := entry_ok hp hjl
    have hcb := corn_bd heo.2
    refine lV (yExtract rfl rfl) rfl rfl ?_
    refine lNil ?_
    refine kThen ?_
    refine kSeq ?_
    refine kIfT rfl ?_
    refine kSkip ?_
    refine kThen ?_
    refine kBlock ?_
    refine kSeq ?_
    refine kRegion rfl ?_
    refine lV (yEntry rfl hj (fun w hw => ⟨hw.blkAt 0 rfl, hw.old' hmb⟩)) rfl rfl ?_
    refine lV (yExtract rfl rfl) rfl rfl ?_
    refine lV (yExtract rfl rfl) rfl rfl ?_
    refine lE rfl ?_
    refine eAlloc Z97 fun n6 => ?_
    refine lV (yAssign rfl) rfl rfl ?_
    refine lE rfl ?_
    refine eStoreL 0 rfl rfl rfl rfl K97 rfl (rfl) ?_
    refine lNil ?_
    refine kThen ?_
    refine kSeq ?_
    refine kRegion rfl ?_
    refine lV (yMove rfl) rfl rfl ?_
    refine lV (yCall rfl (.c rfl .n) C69 (fun w hw => ways_any pb w)) rfl rfl ?_
    refine lV (yMove rfl) rfl rfl ?_
    refine lNil ?_
    refine kThen ?_
    refine kBlock ?_
    refine kLoopX (ι := Nat) (fun k => k ≤ 2) (fun k => [(25, i64 (k : Nat))]) [(0, _), (1, _), (4, _), (13, _), (14, _), (15, _), (16, _), (17, _), (18, _), (19, _), (20, _), (21, _), (22, _), (6, _), (5, _), (23, _), (24, _)] (fun k => []) (fun k => [(n4, blk (endC2 (cond (Nat.blt 0 k) ((starG p n false ((scalesP p (knownP p)).getD j 0)).foldl keepE a) a) (cond (Nat.blt 1 k) ((starG p n true ((scalesP p (knownP p)).getD j 0)).foldl keepE b) b)) 96)]) [(n6, _), (it, _)] (fun k => 2 - k) 0 (by omega) rfl (.c rfl .n) (.c rfl (.c rfl (.c rfl (.c rfl (.c rfl (.c rfl (.c rfl (.c rfl (.c rfl (.c rfl (.c rfl (.c rfl (.c rfl (.c rfl (.c rfl (.c rfl (.c rfl .n))))))))))))))))) (.c 0 rfl (.c 0 rfl (.c 0 rfl .n))) ?_
    rintro k hk
    refine kSeq ?_
    refine kRegion rfl ?_
    refine lV (yLss rfl rfl) rfl rfl ?_
    refine lNil ?_
    refine kThen ?_
    refine kSeq ?_
    refine split (t := 26) rfl (fun h26 => ?_) (fun h26 => ?_)
    · refine kIfT rfl ?_
      refine kSkip ?_
      refine kThen ?_
      refine kSeq ?_
      refine kBlock ?_
      refine kSeq ?_
      by_cases hk0 : k = 0
      · subst hk0
        refine kRegion rfl ?_
        refine lV (yMove rfl) rfl rfl ?_
        refine lV (yIndexV rfl rfl (fun w => IX104_0 w)) rfl rfl ?_
        refine lE rfl ?_
        refine eAlloc Z103 fun n8 => ?_
        refine lV (yAssign rfl) rfl rfl ?_
        refine lE rfl ?_
        refine eStoreL 0 rfl rfl rfl rfl K103 rfl (rfl) ?_
        refine lNil ?_
        refine kThen ?_
        refine kSeq ?_
        refine kDrawE [(0, none), (5, none), (7, none), (8, none), (13, none), (14, none)] [] [0, 1, 2, 3, 4, 5, 6, 7, 8, 9, 10, 11, 12, 13, 14, 15, 16, 17, 18, 19] 0 hMix (by kernel_rfl) ?_
        refine .run rfl (yLoadA (vs := [_, _, _]) rfl A103 (cOwn 0 rfl rfl)) rfl rfl ?_
        refine .run rfl (yMove rfl) rfl rfl ?_
        refine .run rfl (yNilCheckP rfl) rfl rfl ?_
        refine .run rfl (yFieldAddr rfl F90_0) rfl rfl ?_
        refine .run rfl (yFieldAddr rfl F26_1) rfl rfl ?_
        refine .run rfl (yLoad1 rfl O24 (cOldB (hpb) rfl)) rfl rfl ?_
        refine .run rfl (yMove rfl) rfl rfl ?_
        refine .run rfl (yIndexS  rfl rfl S24 (hm.r) (hn)) rfl rfl ?_
        refine .run rfl (yLoadA (vs := [_, _, _, _, _, _, _, _, _]) rfl A58 (cSl0 (hm.r) (hn) rfl)) rfl rfl ?_
        refine .run rfl (yMove rfl) rfl rfl ?_
        refine .run rfl (yMove rfl) rfl rfl ?_
        refine .run rfl (yIndexAr rfl rfl R97 (by omega) (by omega)) rfl rfl ?_
        refine .run rfl (yFieldAddr rfl F23_0) rfl rfl ?_
        refine .run rfl (yLoad1 rfl O3 (cOwn 1 rfl rfl)) rfl rfl ?_
        refine .run rfl (yCall rfl (.c rfl (.c rfl (.c rfl (.c rfl .n)))) C105 (fun w hw => place_any pb false _ _ _ w hst heo.1 (by have := hcb false; omega))) rfl rfl ?_
        refine .run rfl (yMove rfl) rfl rfl ?_
        refine .run rfl (yExtract rfl rfl) rfl rfl ?_
        refine .run rfl (yExtract rfl rfl) rfl rfl ?_
        refine .run rfl (yAssign rfl) rfl rfl ?_
        refine .run rfl (yAssign rfl) rfl rfl ?_
        refine .done ?_
        refine effDone closedSt (hLeft [0, 5, 7, 8, 13, 14] (by kernel_rfl) (.c (fun _ _ hs => hs.ef) (.c (fun _ _ hs => hs.ef) (.c (fun _ _ hs => hs.ef) (.c (fun _ _ hs => hs.ef) (.c (fun _ _ hs => hs.ef) (.c (fun _ _ hs => hs.ef) .n))))))) (by kernel_rfl) ?_
        refine kThen ?_
        refine kSeq ?_
        refine kDrawE [(0, none), (5, none), (7, none), (8, none), (13, none), (14, none)] [] [0, 1, 2, 3, 4, 5, 6, 7, 8, 9, 10, 11, 12, 13, 14, 15, 16, 17, 18, 19] 0 hMix (by kernel_rfl) ?_
        refine .run rfl (yLoadA (vs := [_, _, _]) rfl A103 (cOwn 0 rfl rfl)) rfl rfl ?_
        refine .run rfl (yMove rfl) rfl rfl ?_
        refine .run rfl (yNilCheckP rfl) rfl rfl ?_
        refine .run rfl (yFieldAddr rfl F90_0) rfl rfl ?_
        refine .run rfl (yFieldAddr rfl F26_1) rfl rfl ?_
        refine .run rfl (yLoad1 rfl O24 (cOldB (hpb) rfl)) rfl rfl ?_
        refine .run rfl (yMove rfl) rfl rfl ?_
        refine .run rfl (yIndexS  rfl rfl S24 (hm.r) (hn)) rfl rfl ?_
        refine .run rfl (yLoadA (vs := [_, _, _, _, _, _, _, _, _]) rfl A58 (cSl0 (hm.r) (hn) rfl)) rfl rfl ?_
        refine .run rfl (yMove rfl) rfl rfl ?_
        refine .run rfl (yMove rfl) rfl rfl ?_
        refine .run rfl (yIndexAr rfl rfl R97 (by omega) (by omega)) rfl rfl ?_
        refine .run rfl (yFieldAddr rfl F23_1) rfl rfl ?_
        refine .run rfl (yLoad1 rfl O3 (cOwn 1 rfl rfl)) rfl rfl ?_
        refine .run rfl (yCall rfl (.c rfl (.c rfl (.c rfl (.c rfl .n)))) C105 (fun w hw => place_any pb false _ _ _ w hst heo.1 (by have := hcb false; omega))) rfl rfl ?_
        refine .run rfl (yMove rfl) rfl rfl ?_
        refine .run rfl (yExtract rfl rfl) rfl rfl ?_
        refine .run rfl (yExtract rfl rfl) rfl rfl ?_
        refine .run rfl (yAssign rfl) rfl rfl ?_
        refine .run rfl (yAssign rfl) rfl rfl ?_
        refine .done ?_
        refine effDone closedSt (hLeft [0, 5, 7, 8, 13, 14] (by kernel_rfl) (.c (fun _ _ hs => hs.ef) (.c (fun _ _ hs => hs.ef) (.c (fun _ _ hs => hs.ef) (.c (fun _ _ hs => hs.ef) (.c (fun _ _ hs => hs.ef) (.c (fun _ _ hs => hs.ef) .n))))))) (by kernel_rfl) ?_
        refine kThen ?_
        refine kSeq ?_
        refine kRegion rfl ?_
        refine lV (yMove rfl) rfl rfl ?_
        refine lV (yIndexAr rfl rfl R96 (by omega) (by omega)) rfl rfl ?_
        refine lV (yMove rfl) rfl rfl ?_
        refine lE rfl ?_
        refine eCallW 3 rfl rfl (.c rfl (.c rfl .n)) C54 (fun w hw hb => keepA _ a b _ w hb) ?_
        refine lNil ?_
        refine kThen ?_
        refine kRegion rfl ?_
        refine lV (yMove rfl) rfl rfl ?_
        refine lV (yIndexAr rfl rfl R96 (by omega) (by omega)) rfl rfl ?_
        refine lV (yMove rfl) rfl rfl ?_
        refine lE rfl ?_
        refine eCallW 3 rfl rfl (.c rfl (.c rfl .n)) C54 (fun w hw hb => keepA _ _ b _ w hb) ?_
        refine lNil ?_
        refine kInN ?_
        refine kThen ?_
        refine kRegion rfl ?_
        refine lV (yAdd rfl rfl (by omega)) rfl rfl ?_
        refine lV (yMove rfl) rfl rfl ?_
        refine lNil ?_
        exact kRoundX 1 (by omega) (by omega) rfl (.c rfl .n) (.c rfl (.c rfl (.c rfl (.c rfl (.c rfl (.c rfl (.c rfl (.c rfl (.c rfl (.c rfl (.c rfl (.c rfl (.c rfl (.c rfl (.c rfl (.c rfl (.c rfl .n))))))))))))))))) (.c 1 rfl (.c 1 rfl (.c 1 rfl .n)))
      · obtain rfl : k = 1 := by omega
        refine kRegion rfl ?_
        refine lV (yMove rfl) rfl rfl ?_
        refine lV (yIndexV rfl rfl (fun w => IX104_1 w)) rfl rfl ?_
        refine lE rfl ?_
        refine eAlloc Z103 fun n8 => ?_
        refine lV (yAssign rfl) rfl rfl ?_
        refine lE rfl ?_
        refine eStoreL 0 rfl rfl rfl rfl K103 rfl (rfl) ?_
        refine lNil ?_
        refine kThen ?_
        refine kSeq ?_
        refine kDrawE [(0, none), (5, none), (7, none), (8, none), (13, none), (14, none)] [] [0, 1, 2, 3, 4, 5, 6, 7, 8, 9, 10, 11, 12, 13, 14, 15, 16, 17, 18, 19] 0 hMix (by kernel_rfl) ?_
        refine .run rfl (yLoadA (vs := [_, _, _]) rfl A103 (cOwn 0 rfl rfl)) rfl rfl ?_
        refine .run rfl (yMove rfl) rfl rfl ?_
        refine .run rfl (yNilCheckP rfl) rfl rfl ?_
        refine .run rfl (yFieldAddr rfl F90_0) rfl rfl ?_
        refine .run rfl (yFieldAddr rfl F26_1) rfl rfl ?_
        refine .run rfl (yLoad1 rfl O24 (cOldB (hpb) rfl)) rfl rfl ?_
        refine .run rfl (yMove rfl) rfl rfl ?_
        refine .run rfl (yIndexS  rfl rfl S24 (hm.r) (hn)) rfl rfl ?_
        refine .run rfl (yLoadA (vs := [_, _, _, _, _, _, _, _, _]) rfl A58 (cSl0 (hm.r) (hn) rfl)) rfl rfl ?_
        refine .run rfl (yMove rfl) rfl rfl ?_
        refine .run rfl (yMove rfl) rfl rfl ?_
        refine .run rfl (yIndexAr rfl rfl R97 (by omega) (by omega)) rfl rfl ?_
        refine .run rfl (yFieldAddr rfl F23_0) rfl rfl ?_
        refine .run rfl (yLoad1 rfl O3 (cOwn 1 rfl rfl)) rfl rfl ?_
        refine .run rfl (yCall rfl (.c rfl (.c rfl (.c rfl (.c rfl .n)))) C105 (fun w hw => place_any pb true _ _ _ w hst heo.1 (by have := hcb true; omega))) rfl rfl ?_
        refine .run rfl (yMove rfl) rfl rfl ?_
        refine .run rfl (yExtract rfl rfl) rfl rfl ?_
        refine .run rfl (yExtract rfl rfl) rfl rfl ?_
        refine .run rfl (yAssign rfl) rfl rfl ?_
        refine .run rfl (yAssign rfl) rfl rfl ?_
        refine .done ?_
        refine effDone closedSt (hLeft [0, 5, 7, 8, 13, 14] (by kernel_rfl) (.c (fun _ _ hs => hs.ef) (.c (fun _ _ hs => hs.ef) (.c (fun _ _ hs => hs.ef) (.c (fun _ _ hs => hs.ef) (.c (fun _ _ hs => hs.ef) (.c (fun _ _ hs => hs.ef) .n))))))) (by kernel_rfl) ?_
        refine kThen ?_
        refine kSeq ?_
        refine kDrawE [(0, none), (5, none), (7, none), (8, none), (13, none), (14, none)] [] [0, 1, 2, 3, 4, 5, 6, 7, 8, 9, 10, 11, 12, 13, 14, 15, 16, 17, 18, 19] 0 hMix (by kernel_rfl) ?_
        refine .run rfl (yLoadA (vs := [_, _, _]) rfl A103 (cOwn 0 rfl rfl)) rfl rfl ?_
        refine .run rfl (yMove rfl) rfl rfl ?_
        refine .run rfl (yNilCheckP rfl) rfl rfl ?_
        refine .run rfl (yFieldAddr rfl F90_0) rfl rfl ?_
        refine .run rfl (yFieldAddr rfl F26_1) rfl rfl ?_
        refine .run rfl (yLoad1 rfl O24 (cOldB (hpb) rfl)) rfl rfl ?_
        refine .run rfl (yMove rfl) rfl rfl ?_
        refine .run rfl (yIndexS  rfl rfl S24 (hm.r) (hn)) rfl rfl ?_
        refine .run rfl (yLoadA (vs := [_, _, _, _, _, _, _, _, _]) rfl A58 (cSl0 (hm.r) (hn) rfl)) rfl rfl ?_
        refine .run rfl (yMove rfl) rfl rfl ?_
        refine .run rfl (yMove rfl) rfl rfl ?_
        refine .run rfl (yIndexAr rfl rfl R97 (by omega) (by omega)) rfl rfl ?_
        refine .run rfl (yFieldAddr rfl F23_1) rfl rfl ?_
        refine .run rfl (yLoad1 rfl O3 (cOwn 1 rfl rfl)) rfl rfl ?_
        refine .run rfl (yCall rfl (.c rfl (.c rfl (.c rfl (.c rfl .n)))) C105 (fun w hw => place_any pb true _ _ _ w hst heo.1 (by have := hcb true; omega))) rfl rfl ?_
        refine .run rfl (yMove rfl) rfl rfl ?_
        refine .run rfl (yExtract rfl rfl) rfl rfl ?_
        refine .run rfl (yExtract rfl rfl) rfl rfl ?_
        refine .run rfl (yAssign rfl) rfl rfl ?_
        refine .run rfl (yAssign rfl) rfl rfl ?_
        refine .done ?_
        refine effDone closedSt (hLeft [0, 5, 7, 8, 13, 14] (by kernel_rfl) (.c (fun _ _ hs => hs.ef) (.c (fun _ _ hs => hs.ef) (.c (fun _ _ hs => hs.ef) (.c (fun _ _ hs => hs.ef) (.c (fun _ _ hs => hs.ef) (.c (fun _ _ hs => hs.ef) .n))))))) (by kernel_rfl) ?_
        refine kThen ?_
        refine kSeq ?_
        refine kRegion rfl ?_
        refine lV (yMove rfl) rfl rfl ?_
        refine lV (yIndexAr rfl rfl R96 (by omega) (by omega)) rfl rfl ?_
        refine lV (yMove rfl) rfl rfl ?_
        refine lE rfl ?_
        refine eCallW 3 rfl rfl (.c rfl (.c rfl .n)) C54 (fun w hw hb => keepB _ _ b _ w hb) ?_
        refine lNil ?_
        refine kThen ?_
        refine kRegion rfl ?_
        refine lV (yMove rfl) rfl rfl ?_
        refine lV (yIndexAr rfl rfl R96 (by omega) (by omega)) rfl rfl ?_
        refine lV (yMove rfl) rfl rfl ?_
        refine lE rfl ?_
        refine eCallW 3 rfl rfl (.c rfl (.c rfl .n)) C54 (fun w hw hb => keepB _ _ _ _ w hb) ?_
        refine lNil ?_
        refine kInN ?_
        refine kThen ?_
        refine kRegion rfl ?_
        refine lV (yAdd rfl rfl (by omega)) rfl rfl ?_
        refine lV (yMove rfl) rfl rfl ?_
        refine lNil ?_
        exact kRoundX 2 (by omega) (by omega) rfl (.c rfl .n) (.c rfl (.c rfl (.c rfl (.c rfl (.c rfl (.c rfl (.c rfl (.c rfl (.c rfl (.c rfl (.c rfl (.c rfl (.c rfl (.c rfl (.c rfl (.c rfl (.c rfl .n))))))))))))))))) (.c 1 rfl (.c 1 rfl (.c 1 rfl .n)))
    · refine kIfF rfl ?_
      refine kExit ?_
      refine kThenX ?_
      refine kThenX ?_
      refine kInX ?_
      refine kInN ?_
      obtain rfl : k = 2 := by omega
      exact kRoundX (seen.push j, (starG p n false ((scalesP p (knownP p)).getD j 0)).foldl keepE a, (starG p n true ((scalesP p (knownP p)).getD j 0)).foldl keepE b) (⟨seen_push hsn hjl, SeenS.push j ha, SeenS.push j hb⟩) (leftN_push hjl hsj) rfl .n (.c rfl (.c rfl (.c rfl (.c rfl (.c rfl (.c rfl (.c rfl (.c rfl .n)))))))) (.c 1 rfl (.c 1 rfl .n))
end Go.Proofs.Ytlcdohhhhlhpmaa
