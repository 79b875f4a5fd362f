/-
  Walks: PlateEnds.
-/
import Derived.Test.YtlcdohhhhlhpmaaP6
namespace Go.Proofs.Ytlcdohhhhlhpmaa
open ZW

set_option maxRecDepth 100000 in
theorem pend_any (y : Option Addr × Nat) (p : Plt) (e m : Int × Int) (bn cn n : Nat) (w : World) (hbn : w.heap[bn]? = some (blk (pltC y p) 26)) (hcn : w.heap[cn]? = some (blk [i64 (n : Nat)] 3)) (hm : InP w y p) (hL : p.st.length ≤ 30) (hn : n < p.st.length) (b : Bool) (hb : b = true ↔ (scaleE (asP p n e m)).2 = 0) :
    Calls Try.prog 39 [.agg (rowE e).toArray, .agg (rowE m).toArray, .pointer (some ⟨bn, 0, none⟩), .pointer (some ⟨cn, 0, none⟩)].toArray w (Ret w (.bool b)) := by
  refine fEnter Try.func39 rfl Try.ntmps39 rfl ?_
  refine kSeq ?_
  refine kRegion rfl ?_
  refine lE rfl ?_
  refine eBoxA rfl fun n4 => ?_
  refine lE rfl ?_
  refine eBoxA rfl fun n5 => ?_
  refine lV (yAssign rfl) rfl rfl ?_
  refine lNil ?_
  refine kThen ?_
  refine kSeq ?_
  refine kRegion rfl ?_
  refine lV (yLoadA (vs := [_, _, _]) rfl A26 (cOldB (hbn) rfl)) rfl rfl ?_
  refine lV (yLoad1 rfl O3 (cOldB (hcn) rfl)) rfl rfl ?_
  refine lV (yLoadA (vs := [_, _]) rfl A23 (cOwn 1 rfl rfl)) rfl rfl ?_
  refine lV (yLoadA (vs := [_, _]) rfl A23 (cOwn 0 rfl rfl)) rfl rfl ?_
  refine lE rfl ?_
  refine eCallO rfl (.c rfl (.c rfl (.c rfl (.c rfl .n)))) C40 (fun w hw => as_any y p n e m w (hm.eff0 hw) hL hn) fun g hg => ?_
  refine lV (yCall rfl (.c rfl .n) C15 (fun w hw => scale_any (osA g, osC g) (asP p n e m) w (OS.rowsE (f := rowS) star0 hg hw (.d 0 (.d 0 .r))))) rfl rfl ?_
  refine lV (yMove rfl) rfl rfl ?_
  refine lV (yExtract rfl rfl) rfl rfl ?_
  refine lV (yExtract rfl rfl) rfl rfl ?_
  refine lE rfl ?_
  refine eAlloc Z23 fun n7 => ?_
  refine lE rfl ?_
  refine eStoreL 0 rfl rfl rfl rfl K23 rfl (rfl) ?_
  refine lV (yAssign rfl) rfl rfl ?_
  refine lNil ?_
  refine kThen ?_
  refine kSeq ?_
  refine kRegion rfl ?_
  refine lV (yMove rfl) rfl rfl ?_
  refine lV (yEql rfl rfl) rfl rfl ?_
  refine knownB (t := 19) (c := b) rfl (by rw [Bool.eq_iff_iff, decide_eq_true_eq, hb]) ?_
  refine lV (yAssign rfl) rfl rfl ?_
  refine lNil ?_
  refine kThen ?_
  refine kRet ?_
  refine fRet rfl (.t rfl .n) (endRet ?_)
  rfl
theorem star_err {p : Plt} {n : Int} (hp : PltOk p) (h : toldE p (isStarB p n) ≠ 0) : starE p n = ((0, 0), (0, 0), toldE p (isStarB p n)) ∧ ((scaleE p).2 = 0 ∨ (scaleE p).2 = toldE p (isStarB p n) ∨ toldE p (isStarB p n) = 2) := by
  refine ⟨by unfold starE; rw [if_pos h], ?_⟩
  by_cases hs : isStarB p n = false
  · refine .inr (.inr ?_)
    unfold toldE truthE
    rw [if_neg (not_not_intro hp), if_pos hs, if_pos (by decide)]
  · by_cases hz : scalesP p (knownP p) = []
    · refine .inr (.inl ?_)
      rw [scaleE_none hp hz]
      unfold toldE truthE
      rw [if_neg (not_not_intro hp), if_neg hs, if_pos hz, if_pos (by decide)]
    · exact .inl ((scaleE_e hp).2 hz)
theorem star_fine {p : Plt} {n : Int} (h : toldE p (isStarB p n) = 0) : PltOk p ∧ scalesP p (knownP p) ≠ [] ∧ knownP p ≠ 0 ∧ ∃ k : Nat, n = (k : Int) ∧ k < p.st.length := by
  obtain ⟨h1, h2⟩ := toldE_ok h
  obtain ⟨h3, h4, h5⟩ := truthE_ok h1
  have h6 := of_decide_eq_true h4
  exact ⟨h3, h5, h2, n.toNat, by omega, by omega⟩
theorem star_eq {p : Plt} {n : Nat} (h : toldE p (isStarB p (n : Nat)) = 0) : starE p (n : Nat) = (((starH p n false).lo, (starH p n false).hi), ((starH p n true).lo, (starH p n true).hi), 0) := by
  unfold starE
  rw [if_neg (not_not_intro h)]
  rfl
abbrev allV : Int × Int := (-1048576, 1048576)
theorem ends_k {p : Plt} (hp : PltOk p) {n : Nat} (hn : n < p.st.length) (hne : scalesP p (knownP p) ≠ []) (hb : ∀ d, -1048576 < (starH p n d).lo ∧ (starH p n d).hi < 1048576) (hk : (p.st.getD n star0).k = true) (d : Bool) : EndsD p n d (saidD (!d) (p.st.getD n star0)) allV := by
  have := endsD hp hn hne hb d allV
  unfold ownD at this
  rwa [if_pos hk] at this
theorem ends_u {p : Plt} (hp : PltOk p) {n : Nat} (hn : n < p.st.length) (hne : scalesP p (knownP p) ≠ []) (hb : ∀ d, -1048576 < (starH p n d).lo ∧ (starH p n d).hi < 1048576) (hk : (p.st.getD n star0).k = false) (d : Bool) : EndsD p n d (spanE (starH p n (!d))) allV := by
  have := endsD hp hn hne hb d allV
  unfold ownD at this
  rwa [if_neg (by rw [hk]; decide)] at this

set_option maxRecDepth 100000 in
set_option maxHeartbeats 4000000 in
theorem pends_bad (y : Option Addr × Nat) (p : Plt) (n : Int) (w : World) (hm : InP w y p) (hp : ¬ PltOk p) :
    Calls Try.prog 7 [.agg (pltC y p).toArray, i64 n].toArray w (Ret w (.bool true)) := by
  refine fEnter Try.func7 rfl Try.ntmps7 rfl ?_
  refine kSeq ?_
  refine kRegion rfl ?_
  refine lE rfl ?_
  refine eBoxA rfl fun n2 => ?_
  refine lE rfl ?_
  refine eBox1 rfl rfl fun n3 => ?_
  refine lV (yAssign rfl) rfl rfl ?_
  refine lNil ?_
  refine kThen ?_
  refine kSeq ?_
  refine kSeq ?_
  refine kRegion rfl ?_
  refine lV (yFieldAddr rfl F26_1) rfl rfl ?_
  refine lV (yLoad1 rfl O24 (cOwn 1 rfl rfl)) rfl rfl ?_
  refine lV (yLen rfl S24) rfl rfl ?_
  refine lV (yGtr rfl rfl) rfl rfl ?_
  refine lV (yMove rfl) rfl rfl ?_
  refine split (t := 23) rfl (fun h23 => ?_) (fun h23 => ?_)
  · refine lGN rfl rfl rfl rfl rfl ?_
    refine lGN rfl rfl rfl rfl rfl ?_
    refine lGN rfl rfl rfl rfl rfl ?_
    refine lV (yPickT rfl rfl) rfl rfl ?_
    refine lNil ?_
    refine kThen ?_
    refine kIfT rfl ?_
    refine kSeq ?_
    refine kRegion rfl ?_
    refine lV (yCall rfl .n C14 (fun w hw => alive_any w)) rfl rfl ?_
    refine lV (yAssign rfl) rfl rfl ?_
    refine lNil ?_
    refine kThen ?_
    refine kRet ?_
    refine kThenR ?_
    refine fRet rfl (.t rfl .n) (endRet ?_)
    rfl
  · refine lGY rfl rfl rfl (oV (yLoadA (vs := [_, _, _]) rfl A26 (cOwn 1 rfl rfl)) rfl ?_)
    refine lGY rfl rfl rfl (oV (yCall rfl (.c rfl .n) C23 (fun w hw => rplate_any y p w (hm.eff0 hw) (by omega))) rfl ?_)
    refine knownB (t := 25) (c := false) rfl (decide_eq_false hp) ?_
    refine lGY rfl rfl rfl (oV (yNot rfl) rfl ?_)
    refine lV (yPickF rfl rfl) rfl rfl ?_
    refine lNil ?_
    refine kThen ?_
    refine kIfT rfl ?_
    refine kSeq ?_
    refine kRegion rfl ?_
    refine lV (yCall rfl .n C14 (fun w hw => alive_any w)) rfl rfl ?_
    refine lV (yAssign rfl) rfl rfl ?_
    refine lNil ?_
    refine kThen ?_
    refine kRet ?_
    refine kThenR ?_
    refine fRet rfl (.t rfl .n) (endRet ?_)
    rfl

set_option maxRecDepth 100000 in
set_option maxHeartbeats 4000000 in
theorem pends_err (y : Option Addr × Nat) (p : Plt) (n : Int) (w : World) (hm : InP w y p) (hp : PltOk p) (he : toldE p (isStarB p n) ≠ 0) :
    Calls Try.prog 7 [.agg (pltC y p).toArray, i64 n].toArray w (Ret w (.bool true)) := by
  have hn := hp.n
  obtain ⟨e1, e2⟩ := star_err hp he
  refine fEnter Try.func7 rfl Try.ntmps7 rfl ?_
  refine kSeq ?_
  refine kRegion rfl ?_
  refine lE rfl ?_
  refine eBoxA rfl fun n2 => ?_
  refine lE rfl ?_
  refine eBox1 rfl rfl fun n3 => ?_
  refine lV (yAssign rfl) rfl rfl ?_
  refine lNil ?_
  refine kThen ?_
  refine kSeq ?_
  refine kSeq ?_
  refine kRegion rfl ?_
  refine lV (yFieldAddr rfl F26_1) rfl rfl ?_
  refine lV (yLoad1 rfl O24 (cOwn 1 rfl rfl)) rfl rfl ?_
  refine lV (yLen rfl S24) rfl rfl ?_
  refine lV (yGtr rfl rfl) rfl rfl ?_
  refine knownN (t := 22) rfl (by omega) ?_
  refine lV (yMove rfl) rfl rfl ?_
  refine lGY rfl rfl rfl (oV (yLoadA (vs := [_, _, _]) rfl A26 (cOwn 1 rfl rfl)) rfl ?_)
  refine lGY rfl rfl rfl (oV (yCall rfl (.c rfl .n) C23 (fun w hw => rplate_any y p w (hm.eff0 hw) (by omega))) rfl ?_)
  refine knownB (t := 25) (c := true) rfl (decide_eq_true hp) ?_
  refine lGY rfl rfl rfl (oV (yNot rfl) rfl ?_)
  refine lV (yPickF rfl rfl) rfl rfl ?_
  refine lNil ?_
  refine kThen ?_
  refine kIfF rfl ?_
  refine kSkip ?_
  refine kThen ?_
  refine kSeq ?_
  refine kRegion rfl ?_
  refine lV (yLoadA (vs := [_, _, _]) rfl A26 (cOwn 1 rfl rfl)) rfl rfl ?_
  refine lV (yLoad1 rfl O3 (cOwn 0 rfl rfl)) rfl rfl ?_
  refine lV (yCall rfl (.c rfl (.c rfl .n)) C19 (fun w hw => star_any y p n w (hm.eff0 hw) (by omega))) rfl rfl ?_
  refine same (t := 32) (u := outC2 ((0, 0), (0, 0), toldE p (isStarB p n))) rfl (by rw [e1]) ?_
  refine lV (yMove rfl) rfl rfl ?_
  refine lV (yExtract rfl rfl) rfl rfl ?_
  refine lV (yExtract rfl rfl) rfl rfl ?_
  refine lV (yExtract rfl rfl) rfl rfl ?_
  refine lE rfl ?_
  refine eAlloc Z23 fun n5 => ?_
  refine lE rfl ?_
  refine eAlloc Z23 fun n6 => ?_
  refine lE rfl ?_
  refine eStoreL 1 rfl rfl rfl rfl K23 rfl (rfl) ?_
  refine lE rfl ?_
  refine eStoreL 0 rfl rfl rfl rfl K23 rfl (rfl) ?_
  refine lV (yAssign rfl) rfl rfl ?_
  refine lNil ?_
  refine kThen ?_
  refine kSeq ?_
  refine kRegion rfl ?_
  refine lV (yLoadA (vs := [_, _, _]) rfl A26 (cOwn 3 rfl rfl)) rfl rfl ?_
  refine lV (yCall rfl (.c rfl .n) C15 (fun w hw => scale_any y p w (hm.eff0 hw))) rfl rfl ?_
  refine lV (yMove rfl) rfl rfl ?_
  refine lV (yExtract rfl rfl) rfl rfl ?_
  refine lV (yExtract rfl rfl) rfl rfl ?_
  refine lE rfl ?_
  refine eAlloc Z23 fun n8 => ?_
  refine lE rfl ?_
  refine eStoreL 0 rfl rfl rfl rfl K23 rfl (rfl) ?_
  refine lV (yAssign rfl) rfl rfl ?_
  refine lNil ?_
  refine kThen ?_
  refine kSeq ?_
  refine kSeq ?_
  refine kRegion rfl ?_
  refine lV (yMove rfl) rfl rfl ?_
  refine lV (yNeq rfl rfl) rfl rfl ?_
  refine known (t := 42) rfl (he) ?_
  refine lNil ?_
  refine kThen ?_
  refine kIfT rfl ?_
  refine kSeq ?_
  refine kRegion rfl ?_
  refine lV (yLoadA (vs := [_, _]) rfl A23 (cOwn 2 rfl rfl)) rfl rfl ?_
  refine lV (yBuild .n (fun w => B23_ w)) rfl rfl ?_
  refine lV (yEqAgg rfl rfl G23 (fun w => Q23 w)) rfl rfl ?_
  refine knownB (t := 45) (c := true) rfl (by simp) ?_
  refine lV (yMove rfl) rfl rfl ?_
  refine lGY rfl rfl rfl (oV (yLoadA (vs := [_, _]) rfl A23 (cOwn 1 rfl rfl)) rfl ?_)
  refine lGY rfl rfl rfl (oV (yLoadA (vs := [_, _]) rfl A23 (cOwn 2 rfl rfl)) rfl ?_)
  refine lGY rfl rfl rfl (oV (yEqAgg rfl rfl G23 (fun w => Q23 w)) rfl ?_)
  refine knownB (t := 49) (c := true) rfl (by simp) ?_
  refine lV (yPickT rfl rfl) rfl rfl ?_
  refine lV (yMove rfl) rfl rfl ?_
  refine lGY rfl rfl rfl (oV (yMove rfl) rfl ?_)
  refine lGY rfl rfl rfl (oV (yEql rfl rfl) rfl ?_)
  refine split (t := 53) rfl (fun h53 => ?_) (fun h53 => ?_)
  · refine lGY rfl rfl rfl (oV (yMove rfl) rfl ?_)
    refine lGN rfl rfl rfl rfl rfl ?_
    refine lGN rfl rfl rfl rfl rfl ?_
    refine lGN rfl rfl rfl rfl rfl ?_
    refine lGY rfl rfl rfl (oV (yPickT rfl rfl) rfl ?_)
    refine lGY rfl rfl rfl (oV (yMove rfl) rfl ?_)
    refine lGN rfl rfl rfl rfl rfl ?_
    refine lGN rfl rfl rfl rfl rfl ?_
    refine lGY rfl rfl rfl (oV (yPickT rfl rfl) rfl ?_)
    refine lV (yPickT rfl rfl) rfl rfl ?_
    refine lV (yMove rfl) rfl rfl ?_
    refine lGY rfl rfl rfl (oV (yCall rfl .n C14 (fun w hw => alive_any w)) rfl ?_)
    refine lV (yPickT rfl rfl) rfl rfl ?_
    refine lV (yAssign rfl) rfl rfl ?_
    refine lNil ?_
    refine kThen ?_
    refine kRet ?_
    refine kThenR ?_
    refine fRet rfl (.t rfl .n) (endRet ?_)
    rfl
  · refine lGY rfl rfl rfl (oV (yMove rfl) rfl ?_)
    refine lGY rfl rfl rfl (oV (yMove rfl) rfl ?_)
    refine lGY rfl rfl rfl (oV (yMove rfl) rfl ?_)
    refine lGY rfl rfl rfl (oV (yEql rfl rfl) rfl ?_)
    refine split (t := 57) rfl (fun h57 => ?_) (fun h57 => ?_)
    · refine lGY rfl rfl rfl (oV (yPickF rfl rfl) rfl ?_)
      refine lGY rfl rfl rfl (oV (yMove rfl) rfl ?_)
      refine lGN rfl rfl rfl rfl rfl ?_
      refine lGN rfl rfl rfl rfl rfl ?_
      refine lGY rfl rfl rfl (oV (yPickT rfl rfl) rfl ?_)
      refine lV (yPickT rfl rfl) rfl rfl ?_
      refine lV (yMove rfl) rfl rfl ?_
      refine lGY rfl rfl rfl (oV (yCall rfl .n C14 (fun w hw => alive_any w)) rfl ?_)
      refine lV (yPickT rfl rfl) rfl rfl ?_
      refine lV (yAssign rfl) rfl rfl ?_
      refine lNil ?_
      refine kThen ?_
      refine kRet ?_
      refine kThenR ?_
      refine fRet rfl (.t rfl .n) (endRet ?_)
      rfl
    · refine lGY rfl rfl rfl (oV (yPickF rfl rfl) rfl ?_)
      refine lGY rfl rfl rfl (oV (yMove rfl) rfl ?_)
      refine lGY rfl rfl rfl (oV (yMove rfl) rfl ?_)
      refine lGY rfl rfl rfl (oV (yEql rfl rfl) rfl ?_)
      refine known (t := 61) rfl (by dsimp only at h57 ⊢; omega) ?_
      refine lGY rfl rfl rfl (oV (yPickF rfl rfl) rfl ?_)
      refine lV (yPickT rfl rfl) rfl rfl ?_
      refine lV (yMove rfl) rfl rfl ?_
      refine lGY rfl rfl rfl (oV (yCall rfl .n C14 (fun w hw => alive_any w)) rfl ?_)
      refine lV (yPickT rfl rfl) rfl rfl ?_
      refine lV (yAssign rfl) rfl rfl ?_
      refine lNil ?_
      refine kThen ?_
      refine kRet ?_
      refine kThenR ?_
      refine fRet rfl (.t rfl .n) (endRet ?_)
      rfl
end Go.Proofs.Ytlcdohhhhlhpmaa
