/-
  Walks: where a star is.
-/
import Derived.Test.YtlcdohhhhlhpmaaAi
namespace Go.Proofs.Ytlcdohhhhlhpmaa
open ZW

/-- Where a star is along a direction, with a scale and a corner. -/
def placeP (d : Bool) (s : StarV) (sc c : Int) : Int × Int :=
  if s.k = true then (max (c + (longP sc (imgD d s)).1) (saidD d s).1, min (c + (longP sc (imgD d s)).2) (saidD d s).2) else (c + (longP sc (imgD d s)).1, c + (longP sc (imgD d s)).2)
theorem long_bd {d : Bool} {s : StarV} {sc : Int} (hs : starOk s) (hsc : 0 ≤ sc ∧ sc ≤ 1000) : (0 ≤ (longP sc (imgD d s)).1 ∧ (longP sc (imgD d s)).1 ≤ 32768) ∧ 0 ≤ (longP sc (imgD d s)).2 ∧ (longP sc (imgD d s)).2 ≤ 32768 := by
  have h3 := img_ok (d := d) hs
  have h4 := mul_bd hsc (b := (imgD d s).1) (by unfold spanOk at h3; omega)
  have h5 := mul_bd hsc (b := (imgD d s).2) (by unfold spanOk at h3; omega)
  unfold longP
  omega
set_option maxRecDepth 100000 in
set_option maxHeartbeats 2000000 in
theorem place_any (pb : Nat) (d : Bool) (s : StarV) (sc c : Int) (w : World) (hs : starOk s) (hsc : 0 ≤ sc ∧ sc ≤ 1000) (hc : -10000000000000 ≤ c ∧ c ≤ 10000000000000) : Calls Try.prog 105 [.agg (wayC pb d).toArray, .agg (rowS s).toArray, i64 sc, i64 c].toArray w (Ret w (.tuple [i64 (placeP d s sc c).1, i64 (placeP d s sc c).2].toArray)) := by
  have hl := long_bd (d := d) hs hsc
  refine fEnter Try.func105 rfl Try.ntmps105 rfl ?_
  refine kSeq ?_
  refine kRegion rfl ?_
  refine lE rfl ?_
  refine eBoxA rfl fun n4 => ?_
  refine lE rfl ?_
  refine eBoxA rfl fun n5 => ?_
  refine lV (yAssign rfl) rfl rfl ?_
  refine lV (yAssign rfl) rfl rfl ?_
  refine lNil ?_
  refine kThen ?_
  refine kSeq ?_
  refine kRegion rfl ?_
  refine lV (yLoadA (vs := [_, _, _]) rfl A103 (cOwn 1 rfl rfl)) rfl rfl ?_
  refine lV (yMove rfl) rfl rfl ?_
  refine lV (yLoadA (vs := [_, _, _, _, _, _, _, _, _]) rfl A58 (cOwn 0 rfl rfl)) rfl rfl ?_
  refine lV (yCall rfl (.c rfl (.c rfl (.c rfl .n))) C111 (fun w hw => long_any pb d sc s w hsc (img_ok hs))) rfl rfl ?_
  refine lE rfl ?_
  refine eAlloc Z23 fun n10 => ?_
  refine lE rfl ?_
  refine eStoreL 0 rfl rfl rfl rfl K23 rfl (rfl) ?_
  refine lNil ?_
  refine kThen ?_
  refine kSeq ?_
  refine kDrawE [(2, none), (6, none)] [] [0, 1, 2, 3, 4, 5, 6, 7, 8, 9] 0 hMix (by kernel_rfl) ?_
  refine .run rfl (yMove rfl) rfl rfl ?_
  refine .run rfl (yFieldAddr rfl F23_0) rfl rfl ?_
  refine .run rfl (yLoad1 rfl O3 (cOwn 0 rfl rfl)) rfl rfl ?_
  refine .run rfl (yAdd rfl rfl (by omega)) rfl rfl ?_
  refine .run rfl (yMove rfl) rfl rfl ?_
  refine .run rfl (yFieldAddr rfl F23_1) rfl rfl ?_
  refine .run rfl (yLoad1 rfl O3 (cOwn 0 rfl rfl)) rfl rfl ?_
  refine .run rfl (yAdd rfl rfl (by omega)) rfl rfl ?_
  refine .run rfl (yAssign rfl) rfl rfl ?_
  refine .run rfl (yAssign rfl) rfl rfl ?_
  refine .done ?_
  refine effDone closedSt (hLeft [2, 6] (by kernel_rfl) (.c (fun _ _ hs => hs.ef) (.c (fun _ _ hs => hs.ef) .n))) (by kernel_rfl) ?_
  refine kThen ?_
  refine kSeq ?_
  refine kSeq ?_
  refine kRegion rfl ?_
  refine lV (yFieldAddr rfl F58_2) rfl rfl ?_
  refine lV (yLoad1 rfl O4 (cOwn 1 rfl rfl)) rfl rfl ?_
  refine splitB (t := 24) rfl (fun h24 => ?_) (fun h24 => ?_)
  · refine lNil ?_
    refine kThen ?_
    refine kIfT rfl ?_
    refine kDrawE [(2, none), (3, none), (4, none), (9, none), (10, none), (11, none)] [] [0, 1, 2, 3, 4, 5, 6, 7, 8, 9, 10, 11, 12, 13] 2 hMix (by kernel_rfl) ?_
    refine .run rfl (yMove rfl) rfl rfl ?_
    refine .run rfl (yFieldAddr rfl F103_2) rfl rfl ?_
    refine .run rfl (yLoad1 rfl O101 (cOwn 2 rfl rfl)) rfl rfl ?_
    refine .run rfl (yLoadA (vs := [_, _, _, _, _, _, _, _, _]) rfl A58 (cOwn 1 rfl rfl)) rfl rfl ?_
    refine .run rfl (yCall rfl (.c rfl .n) (said_c d) (fun w hw => said_any d s w)) rfl rfl ?_
    refine .run rfl (yField rfl (fun w => FD23_0 w)) rfl rfl ?_
    refine .run rfl (yMax rfl rfl) rfl rfl ?_
    refine .run rfl (yMove rfl) rfl rfl ?_
    refine .run rfl (yFieldAddr rfl F103_2) rfl rfl ?_
    refine .run rfl (yLoad1 rfl O101 (cOwn 2 rfl rfl)) rfl rfl ?_
    refine .run rfl (yLoadA (vs := [_, _, _, _, _, _, _, _, _]) rfl A58 (cOwn 1 rfl rfl)) rfl rfl ?_
    refine .run rfl (yCall rfl (.c rfl .n) (said_c d) (fun w hw => said_any d s w)) rfl rfl ?_
    refine .run rfl (yField rfl (fun w => FD23_1 w)) rfl rfl ?_
    refine .run rfl (yMin rfl rfl) rfl rfl ?_
    refine .done ?_
    refine effStep 14 [] (by kernel_rfl) closedSt (hLeft [2, 3, 4, 9, 10, 11] (by kernel_rfl) (.c (fun _ _ hs => hs.ef) (.c (fun _ _ hs => hs.ef) (.c (fun _ _ hs => hs.ef) (.c (fun _ _ hs => hs.ef) (.c (fun _ _ hs => hs.ef) (.c (fun _ _ hs => hs.ef) .n))))))) ?_
    refine .c ?_ .n
    refine effOne rfl (gNone rfl (fV (yAssign rfl) rfl)) ?_
    refine effStep 15 [] (by kernel_rfl) closedSt (hLeft [] (by kernel_rfl) .n) ?_
    refine .c ?_ .n
    refine effOne rfl (gNone rfl (fV (yAssign rfl) rfl)) ?_
    refine effDone closedSt (hLeft [] (by kernel_rfl) .n) (by kernel_rfl) ?_
    refine kThen ?_
    refine kSeq ?_
    refine kRegion rfl ?_
    refine lV (yMove rfl) rfl rfl ?_
    refine lV (yMove rfl) rfl rfl ?_
    refine lV (yAssign rfl) rfl rfl ?_
    refine lV (yAssign rfl) rfl rfl ?_
    refine lNil ?_
    refine kThen ?_
    refine kRet ?_
    refine fRet rfl (.t rfl (.t rfl .n)) (endRet ?_)
    simp only [packV, placeP, if_pos h24]
  · refine lNil ?_
    refine kThen ?_
    refine kIfF rfl ?_
    refine kSkip ?_
    refine kThen ?_
    refine kSeq ?_
    refine kRegion rfl ?_
    refine lV (yMove rfl) rfl rfl ?_
    refine lV (yMove rfl) rfl rfl ?_
    refine lV (yAssign rfl) rfl rfl ?_
    refine lV (yAssign rfl) rfl rfl ?_
    refine lNil ?_
    refine kThen ?_
    refine kRet ?_
    refine fRet rfl (.t rfl (.t rfl .n)) (endRet ?_)
    simp only [packV, placeP]; rw [if_neg (by rw [h24]; decide)]
theorem cornT_bd (p : Plt) (d : Bool) (sc : Int) (set : Nat) : ∀ n, -1099511627776 ≤ (cornT p d sc set n).1 ∧ (cornT p d sc set n).2 ≤ 1099511627776
  | 0 => ⟨Int.le_refl _, Int.le_refl _⟩
  | n + 1 => by
    have ih := cornT_bd p d sc set n
    rw [cornT_succ]
    split
    · unfold cornS; dsimp only; omega
    · exact ih
theorem scalesP_mem {p : Plt} {set : Nat} {s : Int} : s ∈ scalesP p set ↔ (p.sc.1 ≤ s ∧ s ≤ p.sc.2) ∧ okAt p set s = true := by
  unfold scalesP filS nSc
  rw [List.mem_map]
  constructor
  · rintro ⟨j, hj, rfl⟩
    rw [List.mem_filter, List.mem_range] at hj
    exact ⟨by omega, hj.2⟩
  · rintro ⟨h1, h2⟩
    refine ⟨(s - p.sc.1).toNat, ?_, by omega⟩
    rw [List.mem_filter, List.mem_range]
    refine ⟨by omega, ?_⟩
    rw [show p.sc.1 + (((s - p.sc.1).toNat : Nat) : Int) = s from by omega]; exact h2
theorem okAt_iff {p : Plt} {set : Nat} {s : Int} : okAt p set s = true ↔ ∀ d, (cornP p d s set).1 ≤ (cornP p d s set).2 := by
  unfold okAt
  rw [Bool.and_eq_true, decide_eq_true_eq, decide_eq_true_eq]
  exact ⟨fun h d => by cases d; (· exact h.1); exact h.2, fun h => ⟨h false, h true⟩⟩
theorem corn_bd {p : Plt} {set : Nat} {s : Int} (h : okAt p set s = true) (d : Bool) : (-1099511627776 ≤ (cornP p d s set).1 ∧ (cornP p d s set).1 ≤ 1099511627776) ∧ -1099511627776 ≤ (cornP p d s set).2 ∧ (cornP p d s set).2 ≤ 1099511627776 := by
  have h1 := okAt_iff.1 h d
  have h2 := cornT_bd p d s set p.st.length
  unfold cornP at *
  omega
/-- The scale of an entry. -/
theorem entry_ok {p : Plt} {set j : Nat} (hp : PltOk p) (hj : j < (filS p set (nSc p)).length) : (0 ≤ (scalesP p set).getD j 0 ∧ (scalesP p set).getD j 0 ≤ 1000) ∧ okAt p set ((scalesP p set).getD j 0) = true := by
  have h := scalesP_mem.1 (getD_mem (l := scalesP p set) (i := j) (by rw [scalesP_len]; exact hj) 0)
  have hc := hp.c
  unfold spanOk at hc
  exact ⟨by omega, h.2⟩

theorem IX104_0 {a b : Option Addr} {c d e f : Fn} (w : World) : (Instr.index 104 (.agg [.pointer a, .func c #[] #[], .func d #[] #[], .pointer b, .func e #[] #[], .func f #[] #[]].toArray) (i64 0)).run Try.prog w = .ok (.agg [.pointer a, .func c #[] #[], .func d #[] #[]].toArray) w := by kernel_rfl
theorem IX104_1 {a b : Option Addr} {c d e f : Fn} (w : World) : (Instr.index 104 (.agg [.pointer a, .func c #[] #[], .func d #[] #[], .pointer b, .func e #[] #[], .func f #[] #[]].toArray) (i64 1)).run Try.prog w = .ok (.agg [.pointer b, .func e #[] #[], .func f #[] #[]].toArray) w := by kernel_rfl

/-- What is kept of a star. -/
def starG (p : Plt) (n : Nat) (d : Bool) (s : Int) : List Int := [(placeP d (p.st.getD n star0) s (cornP p d s (knownP p)).1).1, (placeP d (p.st.getD n star0) s (cornP p d s (knownP p)).2).2]
def starH (p : Plt) (n : Nat) (d : Bool) : Ends := hullE ((scalesP p (knownP p)).flatMap (starG p n d))

set_option maxRecDepth 100000 in
set_option maxHeartbeats 4000000 in
theorem starW_any (pb mb n : Nat) (y : Option Addr × Nat) (p : Plt) (w : World) (hpb : w.heap[pb]? = some (blk (lookC y p mb) 90)) (hmb : w.heap[mb]? = some (mapO .i64 (esA p (knownP p)))) (hm : InP w y p) (hp : PltOk p) (hn : n < p.st.length) :
    Calls Try.prog 65 [.pointer (some ⟨pb, 0, none⟩), i64 (n : Nat)].toArray w (Ret w (.agg (endC2 (starH p n false) (starH p n true)).toArray)) := by
  have hst := hp.s _ (getD_mem hn star0)
  have hpn := hp.n
  refine fEnter Try.func65 rfl Try.ntmps65 rfl ?_
  refine kSeq ?_
  refine kRegion rfl ?_
  refine lE rfl ?_
  refine eAlloc Z96 fun n4 => ?_
  refine lNil ?_
  refine kThen ?_
  refine kSeq ?_
  refine kSeq ?_
  refine kRegion rfl ?_
  refine lV (yMove rfl) rfl rfl ?_
  refine lV (yNilCheckP rfl) rfl rfl ?_
  refine lV (yFieldAddr rfl F90_1) rfl rfl ?_
  refine lV (yLoad1 rfl O88 (cOldB (hpb) rfl)) rfl rfl ?_
  refine lE rfl ?_
  refine eRange MP88 rfl (fun w hw => hw.old' hmb) fun it => ?_
  refine lNil ?_
  refine kThen ?_
  refine kBlock ?_
  refine kLoopX (ι := Array Nat × Ends × Ends) (fun x => (∀ j, x.1.contains j = true → j < (filS p (knownP p) (nSc p)).length) ∧ Hull x.2.1 (SeenS x.1 fun i => starG p n false ((scalesP p (knownP p)).getD i 0)) ∧ Hull x.2.2 (SeenS x.1 fun i => starG p n true ((scalesP p (knownP p)).getD i 0))) (fun x => []) [(0, _), (1, _), (4, _), (13, _), (14, _), (15, _), (16, _), (17, _)] (fun x => []) (fun x => [(it, itO mb (esA p (knownP p)) x.1), (n4, blk (endC2 x.2.1 x.2.2) 96)]) [] (fun x => leftN (filS p (knownP p) (nSc p)).length x.1) (#[], end0, end0) (⟨fun j h => by simp at h, SeenS.empty _, SeenS.empty _⟩) rfl .n (.c rfl (.c rfl (.c rfl (.c rfl (.c rfl (.c rfl (.c rfl (.c rfl .n)))))))) (.c 0 rfl (.c 0 rfl .n)) ?_
  rintro ⟨seen, a, b⟩ ⟨hsn, ha, hb⟩
  dsimp only at hsn ha hb ⊢
  refine kSeq ?_
  refine kRegion rfl ?_
  refine lE rfl ?_
  refine eNext 0 rfl rfl (fun w hw => hw.old' hmb) (fun hall => ?_) (fun j p hj hsj => ?_)
  · refine lV (yExtract rfl rfl) rfl rfl ?_
    refine lNil ?_
    refine kThen ?_
    refine kSeq ?_
    refine kIfF rfl ?_
    refine kExit ?_
    refine kThenX ?_
    refine kThenX ?_
    refine kInX ?_
    refine kThen ?_
    refine kSeq ?_
    refine kRegion rfl ?_
    refine lV (yLoadA (vs := [_, _, _, _, _, _]) rfl A96 (cOwn 1 rfl rfl)) rfl rfl ?_
    refine lE rfl ?_
    refine eStoreL 1 rfl rfl rfl rfl K96 rfl (rfl) ?_
    refine lNil ?_
    refine kThen ?_
    refine kRet ?_
    refine fRet rfl (.cA (us := [_, _, _, _, _, _]) rfl A96 (cOwn 1 rfl rfl) .n) (endRet ?_)
    have e1 := SeenS.all (G := starG p n false) ha (scalesP_len p (knownP p)).symm hsn (fun i hi => hall i (by rw [esP_len]; exact hi))
    have e2 := SeenS.all (G := starG p n true) hb (scalesP_len p (knownP p)).symm hsn (fun i hi => hall i (by rw [esP_len]; exact hi))
    subst e1 e2
    rfl
  · obtain ⟨hjl, rfl⟩ := esP_get hj
    have heo := entry_ok hp hjl
    have hcb := corn_bd heo.2
    refine lV (yExtract rfl rfl) rfl rfl ?_
    refine lNil ?_
    refine kThen ?_
    refine kSeq ?_
    refine kIfT rfl ?_
    refine kSkip ?_
    refine kThen ?_
    refine kBlock ?_
    refine kSeq ?_
    refine kRegion rfl ?_
    refine lV (yEntry rfl hj (fun w hw => ⟨hw.blkAt 0 rfl, hw.old' hmb⟩)) rfl rfl ?_
    refine lV (yExtract rfl rfl) rfl rfl ?_
    refine lV (yExtract rfl rfl) rfl rfl ?_
    refine lE rfl ?_
    refine eAlloc Z97 fun n6 => ?_
    refine lV (yAssign rfl) rfl rfl ?_
    refine lE rfl ?_
    refine eStoreL 0 rfl rfl rfl rfl K97 rfl (rfl) ?_
    refine lNil ?_
    refine kThen ?_
    refine kSeq ?_
    refine kRegion rfl ?_
    refine lV (yMove rfl) rfl rfl ?_
    refine lV (yCall rfl (.c rfl .n) C69 (fun w hw => ways_any pb w)) rfl rfl ?_
    refine lV (yMove rfl) rfl rfl ?_
    refine lNil ?_
    refine kThen ?_
    refine kBlock ?_
    refine kLoopX (ι := Nat) (fun k => k ≤ 2) (fun k => [(25, i64 (k : Nat))]) [(0, _), (1, _), (4, _), (13, _), (14, _), (15, _), (16, _), (17, _), (18, _), (19, _), (20, _), (21, _), (22, _), (6, _), (5, _), (23, _), (24, _)] (fun k => []) (fun k => [(n4, blk (endC2 (cond (Nat.blt 0 k) ((starG p n false ((scalesP p (knownP p)).getD j 0)).foldl keepE a) a) (cond (Nat.blt 1 k) ((starG p n true ((scalesP p (knownP p)).getD j 0)).foldl keepE b) b)) 96)]) [(n6, _), (it, _)] (fun k => 2 - k) 0 (by omega) rfl (.c rfl .n) (.c rfl (.c rfl (.c rfl (.c rfl (.c rfl (.c rfl (.c rfl (.c rfl (.c rfl (.c rfl (.c rfl (.c rfl (.c rfl (.c rfl (.c rfl (.c rfl (.c rfl .n))))))))))))))))) (.c 0 rfl (.c 0 rfl (.c 0 rfl .n))) ?_
    rintro k hk
    refine kSeq ?_
    refine kRegion rfl ?_
    refine lV (yLss rfl rfl) rfl rfl ?_
    refine lNil ?_
    refine kThen ?_
    refine kSeq ?_
    refine split (t := 26) rfl (fun h26 => ?_) (fun h26 => ?_)
    · refine kIfT rfl ?_
      refine kSkip ?_
      refine kThen ?_
      refine kSeq ?_
      refine kBlock ?_
      refine kSeq ?_
      by_cases hk0 : k = 0
      · subst hk0
        refine kRegion rfl ?_
        refine lV (yMove rfl) rfl rfl ?_
        refine lV (yIndexV rfl rfl (fun w => IX104_0 w)) rfl rfl ?_
        refine lE rfl ?_
        refine eAlloc Z103 fun n8 => ?_
        refine lV (yAssign rfl) rfl rfl ?_
        refine lE rfl ?_
        refine eStoreL 0 rfl rfl rfl rfl K103 rfl (rfl) ?_
        refine lNil ?_
        refine kThen ?_
        refine kSeq ?_
        refine kDrawE [(0, none), (5, none), (7, none), (8, none), (13, none), (14, none)] [] [0, 1, 2, 3, 4, 5, 6, 7, 8, 9, 10, 11, 12, 13, 14, 15, 16, 17, 18, 19] 0 hMix (by kernel_rfl) ?_
        refine .run rfl (yLoadA (vs := [_, _, _]) rfl A103 (cOwn 0 rfl rfl)) rfl rfl ?_
        refine .run rfl (yMove rfl) rfl rfl ?_
        refine .run rfl (yNilCheckP rfl) rfl rfl ?_
        refine .run rfl (yFieldAddr rfl F90_0) rfl rfl ?_
        refine .run rfl (yFieldAddr rfl F26_1) rfl rfl ?_
        refine .run rfl (yLoad1 rfl O24 (cOldB (hpb) rfl)) rfl rfl ?_
        refine .run rfl (yMove rfl) rfl rfl ?_
        refine .run rfl (yIndexS  rfl rfl S24 (hm.r) (hn)) rfl rfl ?_
        refine .run rfl (yLoadA (vs := [_, _, _, _, _, _, _, _, _]) rfl A58 (cSl0 (hm.r) (hn) rfl)) rfl rfl ?_
        refine .run rfl (yMove rfl) rfl rfl ?_
        refine .run rfl (yMove rfl) rfl rfl ?_
        refine .run rfl (yIndexAr rfl rfl R97 (by omega) (by omega)) rfl rfl ?_
        refine .run rfl (yFieldAddr rfl F23_0) rfl rfl ?_
        refine .run rfl (yLoad1 rfl O3 (cOwn 1 rfl rfl)) rfl rfl ?_
        refine .run rfl (yCall rfl (.c rfl (.c rfl (.c rfl (.c rfl .n)))) C105 (fun w hw => place_any pb false _ _ _ w hst heo.1 (by have := hcb false; omega))) rfl rfl ?_
        refine .run rfl (yMove rfl) rfl rfl ?_
        refine .run rfl (yExtract rfl rfl) rfl rfl ?_
        refine .run rfl (yExtract rfl rfl) rfl rfl ?_
        refine .run rfl (yAssign rfl) rfl rfl ?_
        refine .run rfl (yAssign rfl) rfl rfl ?_
        refine .done ?_
        refine effDone closedSt (hLeft [0, 5, 7, 8, 13, 14] (by kernel_rfl) (.c (fun _ _ hs => hs.ef) (.c (fun _ _ hs => hs.ef) (.c (fun _ _ hs => hs.ef) (.c (fun _ _ hs => hs.ef) (.c (fun _ _ hs => hs.ef) (.c (fun _ _ hs => hs.ef) .n))))))) (by kernel_rfl) ?_
        refine kThen ?_
        refine kSeq ?_
        refine kDrawE [(0, none), (5, none), (7, none), (8, none), (13, none), (14, none)] [] [0, 1, 2, 3, 4, 5, 6, 7, 8, 9, 10, 11, 12, 13, 14, 15, 16, 17, 18, 19] 0 hMix (by kernel_rfl) ?_
        refine .run rfl (yLoadA (vs := [_, _, _]) rfl A103 (cOwn 0 rfl rfl)) rfl rfl ?_
        refine .run rfl (yMove rfl) rfl rfl ?_
        refine .run rfl (yNilCheckP rfl) rfl rfl ?_
        refine .run rfl (yFieldAddr rfl F90_0) rfl rfl ?_
        refine .run rfl (yFieldAddr rfl F26_1) rfl rfl ?_
        refine .run rfl (yLoad1 rfl O24 (cOldB (hpb) rfl)) rfl rfl ?_
        refine .run rfl (yMove rfl) rfl rfl ?_
        refine .run rfl (yIndexS  rfl rfl S24 (hm.r) (hn)) rfl rfl ?_
        refine .run rfl (yLoadA (vs := [_, _, _, _, _, _, _, _, _]) rfl A58 (cSl0 (hm.r) (hn) rfl)) rfl rfl ?_
        refine .run rfl (yMove rfl) rfl rfl ?_
        refine .run rfl (yMove rfl) rfl rfl ?_
        refine .run rfl (yIndexAr rfl rfl R97 (by omega) (by omega)) rfl rfl ?_
        refine .run rfl (yFieldAddr rfl F23_1) rfl rfl ?_
        refine .run rfl (yLoad1 rfl O3 (cOwn 1 rfl rfl)) rfl rfl ?_
        refine .run rfl (yCall rfl (.c rfl (.c rfl (.c rfl (.c rfl .n)))) C105 (fun w hw => place_any pb false _ _ _ w hst heo.1 (by have := hcb false; omega))) rfl rfl ?_
        refine .run rfl (yMove rfl) rfl rfl ?_
        refine .run rfl (yExtract rfl rfl) rfl rfl ?_
        refine .run rfl (yExtract rfl rfl) rfl rfl ?_
        refine .run rfl (yAssign rfl) rfl rfl ?_
        refine .run rfl (yAssign rfl) rfl rfl ?_
        refine .done ?_
        refine effDone closedSt (hLeft [0, 5, 7, 8, 13, 14] (by kernel_rfl) (.c (fun _ _ hs => hs.ef) (.c (fun _ _ hs => hs.ef) (.c (fun _ _ hs => hs.ef) (.c (fun _ _ hs => hs.ef) (.c (fun _ _ hs => hs.ef) (.c (fun _ _ hs => hs.ef) .n))))))) (by kernel_rfl) ?_
        refine kThen ?_
        refine kSeq ?_
        refine kRegion rfl ?_
        refine lV (yMove rfl) rfl rfl ?_
        refine lV (yIndexAr rfl rfl R96 (by omega) (by omega)) rfl rfl ?_
        refine lV (yMove rfl) rfl rfl ?_
        refine lE rfl ?_
        refine eCallW 3 rfl rfl (.c rfl (.c rfl .n)) C54 (fun w hw hb => keepA _ a b _ w hb) ?_
        refine lNil ?_
        refine kThen ?_
        refine kRegion rfl ?_
        refine lV (yMove rfl) rfl rfl ?_
        refine lV (yIndexAr rfl rfl R96 (by omega) (by omega)) rfl rfl ?_
        refine lV (yMove rfl) rfl rfl ?_
        refine lE rfl ?_
        refine eCallW 3 rfl rfl (.c rfl (.c rfl .n)) C54 (fun w hw hb => keepA _ _ b _ w hb) ?_
        refine lNil ?_
        refine kInN ?_
        refine kThen ?_
        refine kRegion rfl ?_
        refine lV (yAdd rfl rfl (by omega)) rfl rfl ?_
        refine lV (yMove rfl) rfl rfl ?_
        refine lNil ?_
        exact kRoundX 1 (by omega) (by omega) rfl (.c rfl .n) (.c rfl (.c rfl (.c rfl (.c rfl (.c rfl (.c rfl (.c rfl (.c rfl (.c rfl (.c rfl (.c rfl (.c rfl (.c rfl (.c rfl (.c rfl (.c rfl (.c rfl .n))))))))))))))))) (.c 1 rfl (.c 1 rfl (.c 1 rfl .n)))
      · obtain rfl : k = 1 := by omega
        refine kRegion rfl ?_
        refine lV (yMove rfl) rfl rfl ?_
        refine lV (yIndexV rfl rfl (fun w => IX104_1 w)) rfl rfl ?_
        refine lE rfl ?_
        refine eAlloc Z103 fun n8 => ?_
        refine lV (yAssign rfl) rfl rfl ?_
        refine lE rfl ?_
        refine eStoreL 0 rfl rfl rfl rfl K103 rfl (rfl) ?_
        refine lNil ?_
        refine kThen ?_
        refine kSeq ?_
        refine kDrawE [(0, none), (5, none), (7, none), (8, none), (13, none), (14, none)] [] [0, 1, 2, 3, 4, 5, 6, 7, 8, 9, 10, 11, 12, 13, 14, 15, 16, 17, 18, 19] 0 hMix (by kernel_rfl) ?_
        refine .run rfl (yLoadA (vs := [_, _, _]) rfl A103 (cOwn 0 rfl rfl)) rfl rfl ?_
        refine .run rfl (yMove rfl) rfl rfl ?_
        refine .run rfl (yNilCheckP rfl) rfl rfl ?_
        refine .run rfl (yFieldAddr rfl F90_0) rfl rfl ?_
        refine .run rfl (yFieldAddr rfl F26_1) rfl rfl ?_
        refine .run rfl (yLoad1 rfl O24 (cOldB (hpb) rfl)) rfl rfl ?_
        refine .run rfl (yMove rfl) rfl rfl ?_
        refine .run rfl (yIndexS  rfl rfl S24 (hm.r) (hn)) rfl rfl ?_
        refine .run rfl (yLoadA (vs := [_, _, _, _, _, _, _, _, _]) rfl A58 (cSl0 (hm.r) (hn) rfl)) rfl rfl ?_
        refine .run rfl (yMove rfl) rfl rfl ?_
        refine .run rfl (yMove rfl) rfl rfl ?_
        refine .run rfl (yIndexAr rfl rfl R97 (by omega) (by omega)) rfl rfl ?_
        refine .run rfl (yFieldAddr rfl F23_0) rfl rfl ?_
        refine .run rfl (yLoad1 rfl O3 (cOwn 1 rfl rfl)) rfl rfl ?_
        refine .run rfl (yCall rfl (.c rfl (.c rfl (.c rfl (.c rfl .n)))) C105 (fun w hw => place_any pb true _ _ _ w hst heo.1 (by have := hcb true; omega))) rfl rfl ?_
        refine .run rfl (yMove rfl) rfl rfl ?_
        refine .run rfl (yExtract rfl rfl) rfl rfl ?_
        refine .run rfl (yExtract rfl rfl) rfl rfl ?_
        refine .run rfl (yAssign rfl) rfl rfl ?_
        refine .run rfl (yAssign rfl) rfl rfl ?_
        refine .done ?_
        refine effDone closedSt (hLeft [0, 5, 7, 8, 13, 14] (by kernel_rfl) (.c (fun _ _ hs => hs.ef) (.c (fun _ _ hs => hs.ef) (.c (fun _ _ hs => hs.ef) (.c (fun _ _ hs => hs.ef) (.c (fun _ _ hs => hs.ef) (.c (fun _ _ hs => hs.ef) .n))))))) (by kernel_rfl) ?_
        refine kThen ?_
        refine kSeq ?_
        refine kDrawE [(0, none), (5, none), (7, none), (8, none), (13, none), (14, none)] [] [0, 1, 2, 3, 4, 5, 6, 7, 8, 9, 10, 11, 12, 13, 14, 15, 16, 17, 18, 19] 0 hMix (by kernel_rfl) ?_
        refine .run rfl (yLoadA (vs := [_, _, _]) rfl A103 (cOwn 0 rfl rfl)) rfl rfl ?_
        refine .run rfl (yMove rfl) rfl rfl ?_
        refine .run rfl (yNilCheckP rfl) rfl rfl ?_
        refine .run rfl (yFieldAddr rfl F90_0) rfl rfl ?_
        refine .run rfl (yFieldAddr rfl F26_1) rfl rfl ?_
        refine .run rfl (yLoad1 rfl O24 (cOldB (hpb) rfl)) rfl rfl ?_
        refine .run rfl (yMove rfl) rfl rfl ?_
        refine .run rfl (yIndexS  rfl rfl S24 (hm.r) (hn)) rfl rfl ?_
        refine .run rfl (yLoadA (vs := [_, _, _, _, _, _, _, _, _]) rfl A58 (cSl0 (hm.r) (hn) rfl)) rfl rfl ?_
        refine .run rfl (yMove rfl) rfl rfl ?_
        refine .run rfl (yMove rfl) rfl rfl ?_
        refine .run rfl (yIndexAr rfl rfl R97 (by omega) (by omega)) rfl rfl ?_
        refine .run rfl (yFieldAddr rfl F23_1) rfl rfl ?_
        refine .run rfl (yLoad1 rfl O3 (cOwn 1 rfl rfl)) rfl rfl ?_
        refine .run rfl (yCall rfl (.c rfl (.c rfl (.c rfl (.c rfl .n)))) C105 (fun w hw => place_any pb true _ _ _ w hst heo.1 (by have := hcb true; omega))) rfl rfl ?_
        refine .run rfl (yMove rfl) rfl rfl ?_
        refine .run rfl (yExtract rfl rfl) rfl rfl ?_
        refine .run rfl (yExtract rfl rfl) rfl rfl ?_
        refine .run rfl (yAssign rfl) rfl rfl ?_
        refine .run rfl (yAssign rfl) rfl rfl ?_
        refine .done ?_
        refine effDone closedSt (hLeft [0, 5, 7, 8, 13, 14] (by kernel_rfl) (.c (fun _ _ hs => hs.ef) (.c (fun _ _ hs => hs.ef) (.c (fun _ _ hs => hs.ef) (.c (fun _ _ hs => hs.ef) (.c (fun _ _ hs => hs.ef) (.c (fun _ _ hs => hs.ef) .n))))))) (by kernel_rfl) ?_
        refine kThen ?_
        refine kSeq ?_
        refine kRegion rfl ?_
        refine lV (yMove rfl) rfl rfl ?_
        refine lV (yIndexAr rfl rfl R96 (by omega) (by omega)) rfl rfl ?_
        refine lV (yMove rfl) rfl rfl ?_
        refine lE rfl ?_
        refine eCallW 3 rfl rfl (.c rfl (.c rfl .n)) C54 (fun w hw hb => keepB _ _ b _ w hb) ?_
        refine lNil ?_
        refine kThen ?_
        refine kRegion rfl ?_
        refine lV (yMove rfl) rfl rfl ?_
        refine lV (yIndexAr rfl rfl R96 (by omega) (by omega)) rfl rfl ?_
        refine lV (yMove rfl) rfl rfl ?_
        refine lE rfl ?_
        refine eCallW 3 rfl rfl (.c rfl (.c rfl .n)) C54 (fun w hw hb => keepB _ _ _ _ w hb) ?_
        refine lNil ?_
        refine kInN ?_
        refine kThen ?_
        refine kRegion rfl ?_
        refine lV (yAdd rfl rfl (by omega)) rfl rfl ?_
        refine lV (yMove rfl) rfl rfl ?_
        refine lNil ?_
        exact kRoundX 2 (by omega) (by omega) rfl (.c rfl .n) (.c rfl (.c rfl (.c rfl (.c rfl (.c rfl (.c rfl (.c rfl (.c rfl (.c rfl (.c rfl (.c rfl (.c rfl (.c rfl (.c rfl (.c rfl (.c rfl (.c rfl .n))))))))))))))))) (.c 1 rfl (.c 1 rfl (.c 1 rfl .n)))
    · refine kIfF rfl ?_
      refine kExit ?_
      refine kThenX ?_
      refine kThenX ?_
      refine kInX ?_
      refine kInN ?_
      obtain rfl : k = 2 := by omega
      exact kRoundX (seen.push j, (starG p n false ((scalesP p (knownP p)).getD j 0)).foldl keepE a, (starG p n true ((scalesP p (knownP p)).getD j 0)).foldl keepE b) (⟨seen_push hsn hjl, SeenS.push j ha, SeenS.push j hb⟩) (leftN_push hjl hsj) rfl .n (.c rfl (.c rfl (.c rfl (.c rfl (.c rfl (.c rfl (.c rfl (.c rfl .n)))))))) (.c 1 rfl (.c 1 rfl .n))
end Go.Proofs.Ytlcdohhhhlhpmaa
