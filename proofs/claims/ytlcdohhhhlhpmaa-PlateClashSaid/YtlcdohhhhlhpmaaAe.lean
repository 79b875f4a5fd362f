/-
  Walks: where the corner can be; the scales that can be.
-/
import Derived.Test.YtlcdohhhhlhpmaaAd
namespace Go.Proofs.Ytlcdohhhhlhpmaa
open ZW

abbrev far : Int := 1099511627776
/-- Where the corner can be, by one star more. -/
def cornS (d : Bool) (sc : Int) (c : Int × Int) (s : StarV) : Int × Int := (max c.1 ((saidD d s).1 - (longP sc (imgD d s)).2), min c.2 ((saidD d s).2 - (longP sc (imgD d s)).1))
def cornT (p : Plt) (d : Bool) (sc : Int) (set n : Nat) : Int × Int := (List.range n).foldl (fun c i => if set.testBit i = true then cornS d sc c (p.st.getD i star0) else c) (-1099511627776, 1099511627776)
def cornP (p : Plt) (d : Bool) (sc : Int) (set : Nat) : Int × Int := cornT p d sc set p.st.length
theorem cornT_succ (p : Plt) (d : Bool) (sc : Int) (set n : Nat) : cornT p d sc set (n + 1) = if set.testBit n = true then cornS d sc (cornT p d sc set n) (p.st.getD n star0) else cornT p d sc set n := range_foldl_succ _ _ _
/-- A plate that is looked at. -/
abbrev lookC (y : Option Addr × Nat) (p : Plt) (mb : Nat) : List Value := [i64 p.sc.1, i64 p.sc.2, .slice y.1 p.st.length y.2, .map (some mb)]
/-- Only stars that are known. -/
def setOk (p : Plt) (set : Nat) : Prop := ∀ i, set.testBit i = true → i < p.st.length ∧ (p.st.getD i star0).k = true
theorem bit0_iff (s i : Nat) : (((s / 2 ^ i &&& 1 : Nat) : Int) = 0) ↔ s.testBit i = false := by
  rw [Nat.testBit_eq_decide_div_mod_eq, decide_eq_false_iff_not, Nat.and_one_is_mod]
  omega
theorem setOk_lt {p : Plt} {set : Nat} (h : setOk p set) (hn : p.st.length ≤ 10) : set < 1024 := by
  refine Nat.lt_pow_two_of_testBit (n := 10) set fun i hi => ?_
  cases hb : set.testBit i with
  | false => rfl
  | true => have := (h i hb).1; omega

set_option maxRecDepth 100000 in
set_option maxHeartbeats 4000000 in
theorem corner_any (pb mb : Nat) (y : Option Addr × Nat) (p : Plt) (d : Bool) (sc : Int) (set : Nat) (w : World) (hb : w.heap[pb]? = some (blk (lookC y p mb) 90)) (hst : InP w y p) (hp : PltOk p) (hsc : 0 ≤ sc ∧ sc ≤ 1000) (hset : setOk p set) :
    Calls Try.prog 124 [.agg (wayC pb d).toArray, i64 sc, .int .u64 (set : Nat)].toArray w (Ret w (.tuple [.agg (rowE (cornP p d sc set)).toArray, .bool (decide ((cornP p d sc set).1 ≤ (cornP p d sc set).2))].toArray)) := by
  have hn := hp.n
  have hlt := setOk_lt hset hn
  have hbit : ∀ i, ¬ (((set / 2 ^ i &&& 1 : Nat) : Int) = 0) → set.testBit i = true := fun i h => by
    cases hb : set.testBit i with
    | true => rfl
    | false => exact absurd ((bit0_iff set i).2 hb) h
  have hbd : ∀ i, ¬ (((set / 2 ^ i &&& 1 : Nat) : Int) = 0) → i < p.st.length → (-1048576 ≤ (saidD d (p.st.getD i star0)).1 ∧ (saidD d (p.st.getD i star0)).1 ≤ 1048576 ∧ -1048576 ≤ (saidD d (p.st.getD i star0)).2 ∧ (saidD d (p.st.getD i star0)).2 ≤ 1048576) ∧ (0 ≤ (longP sc (imgD d (p.st.getD i star0))).1 ∧ (longP sc (imgD d (p.st.getD i star0))).1 ≤ 32768) ∧ 0 ≤ (longP sc (imgD d (p.st.getD i star0))).2 ∧ (longP sc (imgD d (p.st.getD i star0))).2 ≤ 32768 := fun i h hl => by
    have h1 := hp.s _ (getD_mem hl star0)
    have h2 := said_ok (d := d) h1 (hset i (hbit i h)).2
    have h3 := img_ok (d := d) h1
    have h4 := mul_bd hsc (b := (imgD d (p.st.getD i star0)).1) (by unfold spanOk at h3; omega)
    have h5 := mul_bd hsc (b := (imgD d (p.st.getD i star0)).2) (by unfold spanOk at h3; omega)
    unfold spanOk at h2
    unfold longP
    omega
  refine fEnter Try.func124 rfl Try.ntmps124 rfl ?_
  refine kSeq ?_
  refine kRegion rfl ?_
  refine lE rfl ?_
  refine eBoxA rfl fun n3 => ?_
  refine lE rfl ?_
  refine eAlloc Z23 fun n6 => ?_
  refine lV (yAssign rfl) rfl rfl ?_
  refine lNil ?_
  refine kThen ?_
  refine kScope ?_
  refine kSeq ?_
  refine kRegion rfl ?_
  refine lV (yBuild (.c rfl (.c rfl .n)) (fun w => B23_0_1 w)) rfl rfl ?_
  refine lE rfl ?_
  refine eAlloc Z23 fun n8 => ?_
  refine lE rfl ?_
  refine eStoreL 0 rfl rfl rfl rfl K23 rfl (rfl) ?_
  refine lNil ?_
  refine kThen ?_
  refine kSeq ?_
  refine kLabel ?_
  refine kThen ?_
  refine kSeq ?_
  refine kSeq ?_
  refine kRegion rfl ?_
  refine lV (yFieldAddr rfl F103_0) rfl rfl ?_
  refine lV (yLoad1 rfl O91 (cOwn 2 rfl rfl)) rfl rfl ?_
  refine lV (yNilCheckP rfl) rfl rfl ?_
  refine lV (yFieldAddr rfl F90_0) rfl rfl ?_
  refine lV (yFieldAddr rfl F26_1) rfl rfl ?_
  refine lV (yLoad1 rfl O24 (cOldB (hb) rfl)) rfl rfl ?_
  refine lV (yLen rfl S24) rfl rfl ?_
  refine lV (yMove rfl) rfl rfl ?_
  refine lNil ?_
  refine kThen ?_
  refine kBlock ?_
  refine kLoopX (ι := Nat × Int × Int) (fun x => x.1 ≤ p.st.length ∧ x.2 = cornT p d sc set x.1) (fun x => [(21, i64 (x.1 : Nat))]) [(0, _), (1, _), (2, _), (3, _), (6, _), (7, _), (13, _), (8, _), (14, _), (15, _), (16, _), (17, _), (18, _), (19, _), (20, _)] (fun x => []) (fun x => [(n8, blk (rowE x.2) 23)]) [(n6, _), (n3, _)] (fun x => p.st.length - x.1) (0, (-1099511627776, 1099511627776)) (⟨Nat.zero_le _, rfl⟩) rfl (.c rfl .n) (.c rfl (.c rfl (.c rfl (.c rfl (.c rfl (.c rfl (.c rfl (.c rfl (.c rfl (.c rfl (.c rfl (.c rfl (.c rfl (.c rfl (.c rfl .n))))))))))))))) (.c 1 rfl (.c 1 rfl (.c 0 rfl .n))) ?_
  rintro ⟨i, c⟩ ⟨hi, hc⟩
  dsimp only at hi hc ⊢
  refine kSeq ?_
  refine kRegion rfl ?_
  refine lV (yLss rfl rfl) rfl rfl ?_
  refine lNil ?_
  refine kThen ?_
  refine kSeq ?_
  refine split (t := 22) rfl (fun h22 => ?_) (fun h22 => ?_)
  · refine kIfT rfl ?_
    refine kSkip ?_
    refine kThen ?_
    refine kSeq ?_
    refine kBlock ?_
    refine kSeq ?_
    refine kRegion rfl ?_
    refine lV (yMove rfl) rfl rfl ?_
    refine lV (yIndexS  rfl rfl S24 (hst.r) ((by omega))) rfl rfl ?_
    refine lV (yLoadA (vs := [_, _, _, _, _, _, _, _, _]) rfl A58 (cSl0 (hst.r) ((by omega)) rfl)) rfl rfl ?_
    refine lE rfl ?_
    refine eAlloc Z58 fun n10 => ?_
    refine lV (yAssign rfl) rfl rfl ?_
    refine lE rfl ?_
    refine eStoreL 0 rfl rfl rfl rfl K58 rfl (rfl) ?_
    refine lNil ?_
    refine kThen ?_
    refine kSeq ?_
    refine kSeq ?_
    refine kRegion rfl ?_
    refine lV (yMove rfl) rfl rfl ?_
    refine lV (yMove rfl) rfl rfl ?_
    refine lV (yShr rfl rfl rfl (by omega)) rfl rfl ?_
    refine lV (yAnd (b := 1) rfl rfl rfl (by have := Nat.div_le_self set (2 ^ i); omega) (by have := Nat.div_le_self set (2 ^ i); omega)) rfl rfl ?_
    refine lV (yEql rfl rfl) rfl rfl ?_
    refine split (t := 30) rfl (fun h30 => ?_) (fun h30 => ?_)
    · refine lNil ?_
      refine kThen ?_
      refine kIfT rfl ?_
      refine kExit ?_
      refine kThenX ?_
      refine kInX ?_
      refine kThen ?_
      refine kRegion rfl ?_
      refine lV (yAdd rfl rfl (by omega)) rfl rfl ?_
      refine lV (yMove rfl) rfl rfl ?_
      refine lNil ?_
      exact kRoundX (i + 1, c) (⟨by dsimp only; omega, by dsimp only; rw [cornT_succ, if_neg (by rw [(bit0_iff set i).1 h30]; decide)]; exact hc⟩) (by dsimp only; omega) rfl (.c rfl .n) (.c rfl (.c rfl (.c rfl (.c rfl (.c rfl (.c rfl (.c rfl (.c rfl (.c rfl (.c rfl (.c rfl (.c rfl (.c rfl (.c rfl (.c rfl .n))))))))))))))) (.c 1 rfl (.c 1 rfl (.c 1 rfl .n)))
    · refine lNil ?_
      refine kThen ?_
      refine kIfF rfl ?_
      refine kSkip ?_
      refine kThen ?_
      refine kSeq ?_
      refine kDrawE [(0, none), (2, none), (3, none), (5, none), (6, none), (7, none)] [] [0, 1, 2, 3, 4, 5, 6, 7] 4 hMix (by kernel_rfl) ?_
      refine .run rfl (yLoadA (vs := [_, _, _]) rfl A103 (cOwn 2 rfl rfl)) rfl rfl ?_
      refine .run rfl (yMove rfl) rfl rfl ?_
      refine .run rfl (yLoadA (vs := [_, _, _, _, _, _, _, _, _]) rfl A58 (cOwn 0 rfl rfl)) rfl rfl ?_
      refine .run rfl (yCall rfl (.c rfl (.c rfl (.c rfl .n))) C111 (fun w hw => long_any pb d sc _ w hsc (img_ok (hp.s _ (getD_mem (i := i) (by omega) star0))))) rfl rfl ?_
      refine .run rfl (yFieldAddr rfl F103_2) rfl rfl ?_
      refine .run rfl (yLoad1 rfl O101 (cOwn 2 rfl rfl)) rfl rfl ?_
      refine .run rfl (yLoadA (vs := [_, _, _, _, _, _, _, _, _]) rfl A58 (cOwn 0 rfl rfl)) rfl rfl ?_
      refine .run rfl (yCall rfl (.c rfl .n) (said_c d) (fun w hw => said_any d _ w)) rfl rfl ?_
      refine .done ?_
      refine effStep 8 [9] (by kernel_rfl) closedSt (hLeft [0, 2, 3, 5, 6, 7] (by kernel_rfl) (.c (fun _ _ hs => hs.ef) (.c (fun _ _ hs => hs.ef) (.c (fun _ _ hs => hs.ef) (.c (fun _ _ hs => hs.ef) (.c (fun _ _ hs => hs.ef) (.c (fun _ _ hs => hs.ef) .n))))))) ?_
      refine (.c ?_ (.c ?_ .n))
      · refine effOne rfl (gNone rfl (fAlloc Z23)) ?_
        refine effStep 9 [] (by kernel_rfl) (closedEx fun n11 => closedSt) (hLeft [0, 2, 3, 5, 6, 7] (by kernel_rfl) (.c (fun _ _ ⟨n11, hs⟩ => hs.ef.sub (.c 1 rfl (.c 1 rfl (.c 1 rfl (.c 1 rfl .n))))) (.c (fun _ _ ⟨n11, hs⟩ => hs.ef.sub (.c 1 rfl (.c 1 rfl (.c 1 rfl (.c 1 rfl .n))))) (.c (fun _ _ ⟨n11, hs⟩ => hs.ef.sub (.c 1 rfl (.c 1 rfl (.c 1 rfl (.c 1 rfl .n))))) (.c (fun _ _ ⟨n11, hs⟩ => hs.ef.sub (.c 1 rfl (.c 1 rfl (.c 1 rfl (.c 1 rfl .n))))) (.c (fun _ _ ⟨n11, hs⟩ => hs.ef.sub (.c 1 rfl (.c 1 rfl (.c 1 rfl (.c 1 rfl .n))))) (.c (fun _ _ ⟨n11, hs⟩ => hs.ef.sub (.c 1 rfl (.c 1 rfl (.c 1 rfl (.c 1 rfl .n))))) .n))))))) ?_
        refine .c ?_ .n
        refine effOne rfl (opEx fun n11 => (gNone rfl (fAlloc Z23))) ?_
        refine effStep 10 [] (by kernel_rfl) (closedEx fun n11 => (closedEx fun n12 => closedSt)) (hLeft [0, 2, 3, 5, 6, 7] (by kernel_rfl) (.c (fun _ _ ⟨n11, ⟨n12, hs⟩⟩ => hs.ef.sub (.c 2 rfl (.c 2 rfl (.c 2 rfl (.c 2 rfl .n))))) (.c (fun _ _ ⟨n11, ⟨n12, hs⟩⟩ => hs.ef.sub (.c 2 rfl (.c 2 rfl (.c 2 rfl (.c 2 rfl .n))))) (.c (fun _ _ ⟨n11, ⟨n12, hs⟩⟩ => hs.ef.sub (.c 2 rfl (.c 2 rfl (.c 2 rfl (.c 2 rfl .n))))) (.c (fun _ _ ⟨n11, ⟨n12, hs⟩⟩ => hs.ef.sub (.c 2 rfl (.c 2 rfl (.c 2 rfl (.c 2 rfl .n))))) (.c (fun _ _ ⟨n11, ⟨n12, hs⟩⟩ => hs.ef.sub (.c 2 rfl (.c 2 rfl (.c 2 rfl (.c 2 rfl .n))))) (.c (fun _ _ ⟨n11, ⟨n12, hs⟩⟩ => hs.ef.sub (.c 2 rfl (.c 2 rfl (.c 2 rfl (.c 2 rfl .n))))) .n))))))) ?_
        refine .c ?_ .n
        refine effOne rfl (opEx fun n11 => (opEx fun n12 => (gNone rfl (fStoreL 1 rfl rfl rfl rfl K23 rfl (rfl))))) ?_
        refine effStep 11 [] (by kernel_rfl) (closedEx fun n11 => (closedEx fun n12 => closedSt)) (hLeft [] (by kernel_rfl) .n) ?_
        refine .c ?_ .n
        refine effOne rfl (opEx fun n11 => (opEx fun n12 => (gNone rfl (fStoreL 0 rfl rfl rfl rfl K23 rfl (rfl))))) ?_
        refine effDone (closedEx fun n11 => (closedEx fun n12 => closedSt)) (hLeft [] (by kernel_rfl) .n) (by kernel_rfl) ?_
        refine trEx fun n11 => ?_
        refine trEx fun n12 => ?_
        refine kThen ?_
        refine kRegion rfl ?_
        refine lV (yFieldAddr rfl F23_0) rfl rfl ?_
        refine lV (yLoad1 rfl O3 (cOwn 5 rfl rfl)) rfl rfl ?_
        refine lV (yFieldAddr rfl F23_0) rfl rfl ?_
        refine lV (yLoad1 rfl O3 (cOwn 0 rfl rfl)) rfl rfl ?_
        refine lV (yFieldAddr rfl F23_1) rfl rfl ?_
        refine lV (yLoad1 rfl O3 (cOwn 1 rfl rfl)) rfl rfl ?_
        refine lV (ySub rfl rfl (by have := hbd i h30 (by omega); omega)) rfl rfl ?_
        refine lV (yMax rfl rfl) rfl rfl ?_
        refine lV (yFieldAddr rfl F23_1) rfl rfl ?_
        refine lV (yLoad1 rfl O3 (cOwn 5 rfl rfl)) rfl rfl ?_
        refine lV (yFieldAddr rfl F23_1) rfl rfl ?_
        refine lV (yLoad1 rfl O3 (cOwn 0 rfl rfl)) rfl rfl ?_
        refine lV (yFieldAddr rfl F23_0) rfl rfl ?_
        refine lV (yLoad1 rfl O3 (cOwn 1 rfl rfl)) rfl rfl ?_
        refine lV (ySub rfl rfl (by have := hbd i h30 (by omega); omega)) rfl rfl ?_
        refine lV (yMin rfl rfl) rfl rfl ?_
        refine lV (yBuild (.c rfl (.c rfl .n)) (fun w => B23_0_1 w)) rfl rfl ?_
        refine lE rfl ?_
        refine eStoreL 5 rfl rfl rfl rfl K23 rfl (rfl) ?_
        refine lNil ?_
        refine kInN ?_
        refine kThen ?_
        refine kRegion rfl ?_
        refine lV (yAdd rfl rfl (by omega)) rfl rfl ?_
        refine lV (yMove rfl) rfl rfl ?_
        refine lNil ?_
        exact kRoundX (i + 1, cornS d sc c (p.st.getD i star0)) (⟨by dsimp only; omega, by dsimp only; rw [cornT_succ, if_pos (hbit i h30), hc]⟩) (by dsimp only; omega) rfl (.c rfl .n) (.c rfl (.c rfl (.c rfl (.c rfl (.c rfl (.c rfl (.c rfl (.c rfl (.c rfl (.c rfl (.c rfl (.c rfl (.c rfl (.c rfl (.c rfl .n))))))))))))))) (.c 3 rfl (.c 3 rfl (.c 3 rfl .n)))
      · refine effOne rfl (gNone rfl (fAlloc Z23)) ?_
        refine effStep 8 [] (by kernel_rfl) (closedEx fun n12 => closedSt) (hLeft [0, 2, 3, 5, 6, 7] (by kernel_rfl) (.c (fun _ _ ⟨n12, hs⟩ => hs.ef.sub (.c 1 rfl (.c 1 rfl (.c 1 rfl (.c 1 rfl .n))))) (.c (fun _ _ ⟨n12, hs⟩ => hs.ef.sub (.c 1 rfl (.c 1 rfl (.c 1 rfl (.c 1 rfl .n))))) (.c (fun _ _ ⟨n12, hs⟩ => hs.ef.sub (.c 1 rfl (.c 1 rfl (.c 1 rfl (.c 1 rfl .n))))) (.c (fun _ _ ⟨n12, hs⟩ => hs.ef.sub (.c 1 rfl (.c 1 rfl (.c 1 rfl (.c 1 rfl .n))))) (.c (fun _ _ ⟨n12, hs⟩ => hs.ef.sub (.c 1 rfl (.c 1 rfl (.c 1 rfl (.c 1 rfl .n))))) (.c (fun _ _ ⟨n12, hs⟩ => hs.ef.sub (.c 1 rfl (.c 1 rfl (.c 1 rfl (.c 1 rfl .n))))) .n))))))) ?_
        refine .c ?_ .n
        refine effOne rfl (opEx fun n12 => (gNone rfl (fAlloc Z23))) ?_
        refine effStep 10 [] (by kernel_rfl) (closedEx fun n12 => (closedEx fun n11 => closedSt)) (hLeft [0, 2, 3, 5, 6, 7] (by kernel_rfl) (.c (fun _ _ ⟨n12, ⟨n11, hs⟩⟩ => hs.ef.sub (.c 2 rfl (.c 2 rfl (.c 2 rfl (.c 2 rfl .n))))) (.c (fun _ _ ⟨n12, ⟨n11, hs⟩⟩ => hs.ef.sub (.c 2 rfl (.c 2 rfl (.c 2 rfl (.c 2 rfl .n))))) (.c (fun _ _ ⟨n12, ⟨n11, hs⟩⟩ => hs.ef.sub (.c 2 rfl (.c 2 rfl (.c 2 rfl (.c 2 rfl .n))))) (.c (fun _ _ ⟨n12, ⟨n11, hs⟩⟩ => hs.ef.sub (.c 2 rfl (.c 2 rfl (.c 2 rfl (.c 2 rfl .n))))) (.c (fun _ _ ⟨n12, ⟨n11, hs⟩⟩ => hs.ef.sub (.c 2 rfl (.c 2 rfl (.c 2 rfl (.c 2 rfl .n))))) (.c (fun _ _ ⟨n12, ⟨n11, hs⟩⟩ => hs.ef.sub (.c 2 rfl (.c 2 rfl (.c 2 rfl (.c 2 rfl .n))))) .n))))))) ?_
        refine .c ?_ .n
        refine effOne rfl (opEx fun n12 => (opEx fun n11 => (gNone rfl (fStoreL 0 rfl rfl rfl rfl K23 rfl (rfl))))) ?_
        refine effStep 11 [] (by kernel_rfl) (closedEx fun n12 => (closedEx fun n11 => closedSt)) (hLeft [] (by kernel_rfl) .n) ?_
        refine .c ?_ .n
        refine effOne rfl (opEx fun n12 => (opEx fun n11 => (gNone rfl (fStoreL 1 rfl rfl rfl rfl K23 rfl (rfl))))) ?_
        refine effDone (closedEx fun n12 => (closedEx fun n11 => closedSt)) (hLeft [] (by kernel_rfl) .n) (by kernel_rfl) ?_
        refine trEx fun n12 => ?_
        refine trEx fun n11 => ?_
        refine kThen ?_
        refine kRegion rfl ?_
        refine lV (yFieldAddr rfl F23_0) rfl rfl ?_
        refine lV (yLoad1 rfl O3 (cOwn 5 rfl rfl)) rfl rfl ?_
        refine lV (yFieldAddr rfl F23_0) rfl rfl ?_
        refine lV (yLoad1 rfl O3 (cOwn 1 rfl rfl)) rfl rfl ?_
        refine lV (yFieldAddr rfl F23_1) rfl rfl ?_
        refine lV (yLoad1 rfl O3 (cOwn 0 rfl rfl)) rfl rfl ?_
        refine lV (ySub rfl rfl (by have := hbd i h30 (by omega); omega)) rfl rfl ?_
        refine lV (yMax rfl rfl) rfl rfl ?_
        refine lV (yFieldAddr rfl F23_1) rfl rfl ?_
        refine lV (yLoad1 rfl O3 (cOwn 5 rfl rfl)) rfl rfl ?_
        refine lV (yFieldAddr rfl F23_1) rfl rfl ?_
        refine lV (yLoad1 rfl O3 (cOwn 1 rfl rfl)) rfl rfl ?_
        refine lV (yFieldAddr rfl F23_0) rfl rfl ?_
        refine lV (yLoad1 rfl O3 (cOwn 0 rfl rfl)) rfl rfl ?_
        refine lV (ySub rfl rfl (by have := hbd i h30 (by omega); omega)) rfl rfl ?_
        refine lV (yMin rfl rfl) rfl rfl ?_
        refine lV (yBuild (.c rfl (.c rfl .n)) (fun w => B23_0_1 w)) rfl rfl ?_
        refine lE rfl ?_
        refine eStoreL 5 rfl rfl rfl rfl K23 rfl (rfl) ?_
        refine lNil ?_
        refine kInN ?_
        refine kThen ?_
        refine kRegion rfl ?_
        refine lV (yAdd rfl rfl (by omega)) rfl rfl ?_
        refine lV (yMove rfl) rfl rfl ?_
        refine lNil ?_
        exact kRoundX (i + 1, cornS d sc c (p.st.getD i star0)) (⟨by dsimp only; omega, by dsimp only; rw [cornT_succ, if_pos (hbit i h30), hc]⟩) (by dsimp only; omega) rfl (.c rfl .n) (.c rfl (.c rfl (.c rfl (.c rfl (.c rfl (.c rfl (.c rfl (.c rfl (.c rfl (.c rfl (.c rfl (.c rfl (.c rfl (.c rfl (.c rfl .n))))))))))))))) (.c 3 rfl (.c 3 rfl (.c 3 rfl .n)))
  · refine kIfF rfl ?_
    refine kExit ?_
    refine kThenX ?_
    refine kThenX ?_
    refine kInX ?_
    refine kThen ?_
    refine kSeq ?_
    refine kDrawE [(0, none), (2, some [1, 2]), (4, some [1, 2])] [] [0, 1, 2, 3, 4, 5, 7] 1 hMix (by kernel_rfl) ?_
    refine .run rfl (yLoadA (vs := [_, _]) rfl A23 (cOwn 2 rfl rfl)) rfl rfl ?_
    refine .run rfl (yFieldAddr rfl F23_0) rfl rfl ?_
    refine .run rfl (yLoad1 rfl O3 (cOwn 1 rfl rfl)) rfl rfl ?_
    refine .run rfl (yFieldAddr rfl F23_1) rfl rfl ?_
    refine .run rfl (yLoad1 rfl O3 (cOwn 1 rfl rfl)) rfl rfl ?_
    refine .run rfl (yLeq rfl rfl) rfl rfl ?_
    refine .run rfl (yAssign rfl) rfl rfl ?_
    refine .done ?_
    refine effStep 6 [] (by kernel_rfl) closedSt (hLeft [0, 2, 4] (by kernel_rfl) (.c (fun _ _ hs => hs.ef) (.c (fun _ _ hs => hs.ef.sub (.c 1 rfl (.c 1 rfl .n))) (.c (fun _ _ hs => hs.ef.sub (.c 1 rfl (.c 1 rfl .n))) .n)))) ?_
    refine .c ?_ .n
    refine effOne rfl (gNone rfl (fStoreL 0 rfl rfl rfl rfl K23 rfl (rfl))) ?_
    refine effDone closedSt (hLeft [2, 4] (by kernel_rfl) (.c (fun _ _ hs => hs.ef.sub (.c 1 rfl (.c 1 rfl .n))) (.c (fun _ _ hs => hs.ef.sub (.c 1 rfl (.c 1 rfl .n))) .n))) (by kernel_rfl) ?_
    refine kThen ?_
    refine kRet ?_
    refine kScR ?_
    refine fRet rfl (.cA (us := [_, _]) rfl A23 (cOwn 0 rfl rfl) (.t rfl .n)) (endRet ?_)
    obtain rfl : i = p.st.length := by omega
    rw [show cornP p d sc set = c from hc.symm]
    rfl

/-! ### The stars that are known -/
def knownT (p : Plt) (n : Nat) : Nat := (List.range n).foldl (fun s i => if (p.st.getD i star0).k = true then s ||| 1 * 2 ^ i else s) 0
def knownP (p : Plt) : Nat := knownT p p.st.length
theorem knownT_succ (p : Plt) (n : Nat) : knownT p (n + 1) = if (p.st.getD n star0).k = true then knownT p n ||| 1 * 2 ^ n else knownT p n := range_foldl_succ _ _ _
theorem knownT_test (p : Plt) (i : Nat) : ∀ n, (knownT p n).testBit i = (decide (i < n) && (p.st.getD i star0).k)
  | 0 => by simp [knownT]
  | n + 1 => by
    have ih := knownT_test p i n
    rw [knownT_succ]
    split
    · rename_i h
      rw [Nat.testBit_or, ih, Nat.one_mul, Nat.testBit_two_pow]
      by_cases h1 : i = n
      · subst h1; rw [h]; simp
      · have h2 : ¬ n = i := fun e => h1 e.symm
        by_cases h3 : i < n
        · have : i < n + 1 := by omega
          simp [h2, h3, this]
        · have : ¬ i < n + 1 := by omega
          simp [h2, h3, this]
    · rename_i h
      rw [ih]
      by_cases h1 : i = n
      · subst h1
        have h' : (p.st.getD i star0).k = false := by simpa only [Bool.not_eq_true] using h
        rw [h']; simp
      · by_cases h3 : i < n
        · have : i < n + 1 := by omega
          simp [h3, this]
        · have : ¬ i < n + 1 := by omega
          simp [h3, this]
theorem knownP_test (p : Plt) (i : Nat) : (knownP p).testBit i = (decide (i < p.st.length) && (p.st.getD i star0).k) := knownT_test p i _
theorem known_ok (p : Plt) : setOk p (knownP p) := fun i h => by
  rw [knownP_test, Bool.and_eq_true, decide_eq_true_eq] at h; exact h
theorem knownT_lt (p : Plt) (n : Nat) : knownT p n < 2 ^ n := Nat.lt_pow_two_of_testBit _ fun i hi => by
  rw [knownT_test, decide_eq_false (by omega)]; rfl

set_option maxRecDepth 100000 in
theorem known_any (pb mb : Nat) (y : Option Addr × Nat) (p : Plt) (w : World) (hb : w.heap[pb]? = some (blk (lookC y p mb) 90)) (hst : InP w y p) (hn : p.st.length ≤ 10) :
    Calls Try.prog 81 [.pointer (some ⟨pb, 0, none⟩)].toArray w (Ret w (.int .u64 (knownP p : Nat))) := by
  refine fEnter Try.func81 rfl Try.ntmps81 rfl ?_
  refine kSeq ?_
  refine kRegion rfl ?_
  refine lV (yAssign rfl) rfl rfl ?_
  refine lNil ?_
  refine kThen ?_
  refine kSeq ?_
  refine kSeq ?_
  refine kRegion rfl ?_
  refine lV (yMove rfl) rfl rfl ?_
  refine lV (yNilCheckP rfl) rfl rfl ?_
  refine lV (yFieldAddr rfl F90_0) rfl rfl ?_
  refine lV (yFieldAddr rfl F26_1) rfl rfl ?_
  refine lV (yLoad1 rfl O24 (cOldB (hb) rfl)) rfl rfl ?_
  refine lV (yLen rfl S24) rfl rfl ?_
  refine lV (yMove rfl) rfl rfl ?_
  refine lNil ?_
  refine kThen ?_
  refine kBlock ?_
  refine kLoopX (ι := Nat × Nat) (fun x => x.1 ≤ p.st.length ∧ x.2 = knownT p x.1) (fun x => [(11, i64 (x.1 : Nat)), (2, .int .u64 (x.2 : Nat))]) [(0, _), (5, _), (6, _), (7, _), (8, _), (9, _), (10, _)] (fun x => []) (fun x => []) [] (fun x => p.st.length - x.1) (0, 0) (⟨Nat.zero_le _, rfl⟩) rfl (.c rfl (.c rfl .n)) (.c rfl (.c rfl (.c rfl (.c rfl (.c rfl (.c rfl (.c rfl .n))))))) .n ?_
  rintro ⟨i, s⟩ ⟨hi, hs⟩
  dsimp only at hi hs ⊢
  refine kSeq ?_
  refine kRegion rfl ?_
  refine lV (yLss rfl rfl) rfl rfl ?_
  refine lNil ?_
  refine kThen ?_
  refine kSeq ?_
  refine split (t := 12) rfl (fun h12 => ?_) (fun h12 => ?_)
  · refine kIfT rfl ?_
    refine kSkip ?_
    refine kThen ?_
    refine kSeq ?_
    refine kBlock ?_
    refine kSeq ?_
    have hlt := knownT_lt p i
    have hp2 : 2 ^ i ≤ 2 ^ 10 := Nat.pow_le_pow_right (by omega) (by omega)
    refine kRegion rfl ?_
    refine lV (yMove rfl) rfl rfl ?_
    refine lV (yIndexS  rfl rfl S24 (hst.r) ((by omega))) rfl rfl ?_
    refine lV (yLoadA (vs := [_, _, _, _, _, _, _, _, _]) rfl A58 (cSl0 (hst.r) ((by omega)) rfl)) rfl rfl ?_
    refine lE rfl ?_
    refine eAlloc Z58 fun n4 => ?_
    refine lV (yAssign rfl) rfl rfl ?_
    refine lE rfl ?_
    refine eStoreL 0 rfl rfl rfl rfl K58 rfl (rfl) ?_
    refine lNil ?_
    refine kThen ?_
    refine kSeq ?_
    refine kRegion rfl ?_
    refine lV (yFieldAddr rfl F58_2) rfl rfl ?_
    refine lV (yLoad1 rfl O4 (cOwn 0 rfl rfl)) rfl rfl ?_
    refine splitB (t := 17) rfl (fun h17 => ?_) (fun h17 => ?_)
    · refine lNil ?_
      refine kThen ?_
      refine kIfT rfl ?_
      refine kRegion rfl ?_
      refine lV (yMove rfl) rfl rfl ?_
      refine lV (yMove rfl) rfl rfl ?_
      refine lV (yShl (a := 1) rfl rfl rfl (by omega) (by omega)) rfl rfl ?_
      refine lV (yOr rfl rfl rfl (by omega) (by omega)) rfl rfl ?_
      refine lV (yAssign rfl) rfl rfl ?_
      refine lNil ?_
      refine kInN ?_
      refine kThen ?_
      refine kRegion rfl ?_
      refine lV (yAdd rfl rfl (by omega)) rfl rfl ?_
      refine lV (yMove rfl) rfl rfl ?_
      refine lNil ?_
      exact kRoundX (i + 1, s ||| 1 * 2 ^ i) (⟨by dsimp only; omega, by dsimp only; rw [knownT_succ, if_pos h17, hs]⟩) (by dsimp only; omega) rfl (.c rfl (.c rfl .n)) (.c rfl (.c rfl (.c rfl (.c rfl (.c rfl (.c rfl (.c rfl .n))))))) .n
    · refine lNil ?_
      refine kThen ?_
      refine kIfF rfl ?_
      refine kSkip ?_
      refine kInN ?_
      refine kThen ?_
      refine kRegion rfl ?_
      refine lV (yAdd rfl rfl (by omega)) rfl rfl ?_
      refine lV (yMove rfl) rfl rfl ?_
      refine lNil ?_
      exact kRoundX (i + 1, s) (⟨by dsimp only; omega, by dsimp only; rw [knownT_succ, if_neg (by rw [h17]; decide), hs]⟩) (by dsimp only; omega) rfl (.c rfl (.c rfl .n)) (.c rfl (.c rfl (.c rfl (.c rfl (.c rfl (.c rfl (.c rfl .n))))))) .n
  · refine kIfF rfl ?_
    refine kExit ?_
    refine kThenX ?_
    refine kThenX ?_
    refine kInX ?_
    refine kThen ?_
    refine kSeq ?_
    refine kRegion rfl ?_
    refine lV (yMove rfl) rfl rfl ?_
    refine lV (yAssign rfl) rfl rfl ?_
    refine lNil ?_
    refine kThen ?_
    refine kRet ?_
    refine fRet rfl (.t rfl .n) (endRet ?_)
    obtain rfl : i = p.st.length := by omega
    rw [show s = knownP p from hs]
    rfl
end Go.Proofs.Ytlcdohhhhlhpmaa
