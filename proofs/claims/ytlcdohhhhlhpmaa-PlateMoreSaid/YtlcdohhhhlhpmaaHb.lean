/-
  Walks: PlateMore.
-/
import Derived.Test.YtlcdohhhhlhpmaaGb
namespace Go.Proofs.Ytlcdohhhhlhpmaa
open ZW

/-- A plate with another star. -/
def setP (p : Plt) (k : Nat) (s : StarV) : Plt := ⟨p.sc, p.st.set k s⟩
theorem setP_get {p : Plt} {k i : Nat} {s : StarV} (hk : k < p.st.length) : (setP p k s).st.getD i star0 = if i = k then s else p.st.getD i star0 := by
  unfold setP
  by_cases h : i = k
  · subst h
    rw [if_pos rfl, List.getD_eq_getElem?_getD, List.getElem?_set_self hk, Option.getD_some]
  · rw [if_neg h, List.getD_eq_getElem?_getD, List.getElem?_set_ne (Ne.symm h), ← List.getD_eq_getElem?_getD]
theorem setP_fine {p : Plt} {k : Nat} {s : StarV} (hk : k < p.st.length) (hi : ∀ d, (imgD d (p.st.getD k star0)).1 ≤ (imgD d s).1 ∧ (imgD d s).2 ≤ (imgD d (p.st.getD k star0)).2)
    (hs : (p.st.getD k star0).k = true → s.k = true ∧ ∀ d, (saidD d (p.st.getD k star0)).1 ≤ (saidD d s).1 ∧ (saidD d s).2 ≤ (saidD d (p.st.getD k star0)).2) : Finer (setP p k s) p := by
  refine ⟨⟨Int.le_refl _, Int.le_refl _⟩, List.length_set, fun i _ d => ?_, fun i _ h => ?_⟩
  · rw [setP_get hk]
    by_cases e : i = k
    · subst e; rw [if_pos rfl]; exact hi d
    · rw [if_neg e]; exact ⟨Int.le_refl _, Int.le_refl _⟩
  · rw [setP_get hk]
    by_cases e : i = k
    · subst e; rw [if_pos rfl]; exact hs h
    · rw [if_neg e]; exact ⟨h, fun _ => ⟨Int.le_refl _, Int.le_refl _⟩⟩
theorem as_fine {p : Plt} {k : Nat} {e m : Int × Int} (hk : k < p.st.length) (h : (p.st.getD k star0).k = false) : Finer (asP p k e m) p :=
  setP_fine (s := asS (p.st.getD k star0) e m) hk (fun d => by rw [as_img]; exact ⟨Int.le_refl _, Int.le_refl _⟩) (fun h' => by rw [h] at h'; cases h')
def nar0 (s : StarV) : StarV := { s with x := (min s.x.2 (s.x.1 + 1), s.x.2), y := (s.y.1, max s.y.1 (s.y.2 - 1)) }
def nar1 (s : StarV) : StarV := { s with e := (s.e.1, max s.e.1 (IntKind.i64.wrap (s.e.2 - 1))), n := (min s.n.2 (IntKind.i64.wrap (s.n.1 + 1)), s.n.2) }
theorem nar0_fine {p : Plt} (hp : PltOk p) {k : Nat} (hk : k < p.st.length) : Finer (setP p k (nar0 (p.st.getD k star0))) p := by
  have h1 := hp.s _ (getD_mem hk star0)
  have hx := h1.1
  have hy := h1.2.1
  unfold spanOk at hx hy
  refine setP_fine hk (fun d => ?_) (fun h => ⟨h, fun d => ?_⟩)
  · cases d
    · show _ ≤ min _ _ ∧ _ ≤ _
      unfold imgD
      simp only [Bool.false_eq_true, if_false]
      unfold nar0
      dsimp only
      omega
    · unfold imgD
      simp only [if_true]
      unfold nar0
      dsimp only
      omega
  · cases d <;> exact ⟨Int.le_refl _, Int.le_refl _⟩
theorem nar1_fine {p : Plt} (hp : PltOk p) {k : Nat} (hk : k < p.st.length) : Finer (setP p k (nar1 (p.st.getD k star0))) p := by
  have h1 := hp.s _ (getD_mem hk star0)
  refine setP_fine hk (fun d => ?_) (fun h => ⟨h, fun d => ?_⟩)
  · cases d <;> exact ⟨Int.le_refl _, Int.le_refl _⟩
  · have h2 := h1.2.2 h
    have he := h2.1
    have hn := h2.2
    unfold spanOk at he hn
    have w1 := IntWalk.i64_in ((p.st.getD k star0).e.2 - 1) (by omega)
    have w2 := IntWalk.i64_in ((p.st.getD k star0).n.1 + 1) (by omega)
    unfold saidD nar1
    rw [w1, w2]
    cases d
    · simp only [Bool.false_eq_true, if_false]
      omega
    · simp only [if_true]
      omega
def narS (p : Plt) : Plt := ⟨(min p.sc.2 (p.sc.1 + 3), p.sc.2), p.st⟩
theorem narS_fine {p : Plt} (hp : PltOk p) : Finer (narS p) p := by
  have h1 := hp.c
  unfold spanOk at h1
  exact ⟨⟨by show _ ≤ min _ _; omega, Int.le_refl _⟩, rfl, fun _ _ _ => ⟨Int.le_refl _, Int.le_refl _⟩, fun _ _ h => ⟨h, fun _ => ⟨Int.le_refl _, Int.le_refl _⟩⟩⟩
theorem rows2 {p : Plt} {k : Nat} (hk : k < p.st.length) (o1 o2 : Nat) (v1 v2 : List Value) :
    ((p.st.map rowS).set k (wr ((p.st.map rowS).getD k []) o1 v1)).set k (wr (((p.st.map rowS).set k (wr ((p.st.map rowS).getD k []) o1 v1)).getD k []) o2 v2) = (p.st.map rowS).set k (wr (wr (rowS (p.st.getD k star0)) o1 v1) o2 v2) := by
  have hg : ∀ (l : List (List Value)) (x : List Value), k < l.length → (l.set k x).getD k [] = x := fun l x h => by rw [List.getD_eq_getElem?_getD, List.getElem?_set_self h]; rfl
  rw [hg _ _ (by rw [List.length_map]; exact hk), List.set_set, map_getD hk star0]
theorem drop_nat {p : Plt} (hp : PltOk p) : ∃ d : Nat, dropE p = ((d : Int), 0) ∧ d < 1024 := by
  have hlt := setOk_lt (known_ok p) hp.n
  obtain ⟨d, e, h, _⟩ := drop_spec hp
  exact ⟨d, e, subS_lt h hlt⟩

set_option maxRecDepth 100000 in
theorem in_any (x z : Int × Int) (v : Bool) (w : World) (hv : v = true ↔ inV x z) : Calls Try.prog 44 [.agg (rowE x).toArray, .agg (rowE z).toArray].toArray w (Ret w (.bool v)) := by
  refine fEnter Try.func44 rfl Try.ntmps44 rfl ?_
  refine kSeq ?_
  refine kRegion rfl ?_
  refine lE rfl ?_
  refine eBoxA rfl fun n2 => ?_
  refine lE rfl ?_
  refine eBoxA rfl fun n3 => ?_
  refine lV (yAssign rfl) rfl rfl ?_
  refine lNil ?_
  refine kThen ?_
  refine kSeq ?_
  refine kRegion rfl ?_
  refine lV (yFieldAddr rfl F23_0) rfl rfl ?_
  refine lV (yLoad1 rfl O3 (cOwn 1 rfl rfl)) rfl rfl ?_
  refine lV (yFieldAddr rfl F23_0) rfl rfl ?_
  refine lV (yLoad1 rfl O3 (cOwn 0 rfl rfl)) rfl rfl ?_
  refine lV (yGeq rfl rfl) rfl rfl ?_
  refine lV (yMove rfl) rfl rfl ?_
  refine split (t := 10) rfl (fun h10 => ?_) (fun h10 => ?_)
  · refine lGY rfl rfl rfl (oV (yFieldAddr rfl F23_1) rfl ?_)
    refine lGY rfl rfl rfl (oV (yLoad1 rfl O3 (cOwn 1 rfl rfl)) rfl ?_)
    refine lGY rfl rfl rfl (oV (yFieldAddr rfl F23_1) rfl ?_)
    refine lGY rfl rfl rfl (oV (yLoad1 rfl O3 (cOwn 0 rfl rfl)) rfl ?_)
    refine lGY rfl rfl rfl (oV (yLeq rfl rfl) rfl ?_)
    refine knownB (t := 15) (c := v) rfl (by rw [Bool.eq_iff_iff, decide_eq_true_eq, hv]; exact ⟨fun h => ⟨h10, h⟩, fun h => h.2⟩) ?_
    refine lV (yPickT rfl rfl) rfl rfl ?_
    refine lV (yAssign rfl) rfl rfl ?_
    refine lNil ?_
    refine kThen ?_
    refine kRet ?_
    refine fRet rfl (.t rfl .n) (endRet ?_)
    rfl
  · refine lGN rfl rfl rfl rfl rfl ?_
    refine lGN rfl rfl rfl rfl rfl ?_
    refine lGN rfl rfl rfl rfl rfl ?_
    refine lGN rfl rfl rfl rfl rfl ?_
    refine lGN rfl rfl rfl rfl rfl ?_
    refine lV (yPickF rfl rfl) rfl rfl ?_
    refine lV (yAssign rfl) rfl rfl ?_
    refine lNil ?_
    refine kThen ?_
    refine kRet ?_
    refine fRet rfl (.t rfl .n) (endRet ?_)
    have : v = false := by
      cases v with
      | false => rfl
      | true => exact absurd (hv.1 rfl).1 h10
    rw [this]; rfl

set_option maxRecDepth 100000 in
set_option maxHeartbeats 4000000 in
theorem pmore_bad (y : Option Addr × Nat) (p : Plt) (a b : Int) (wh : Nat) (e m : Int × Int) (w : World) (hm : InP w y p) (hp : ¬ PltOk p) :
    Calls Try.prog 9 [.agg (pltC y p).toArray, i64 a, i64 b, .int .u8 (wh : Nat), .agg (rowE e).toArray, .agg (rowE m).toArray].toArray w (Ret w (.bool true)) := by
  refine fEnter Try.func9 rfl Try.ntmps9 rfl ?_
  refine kSeq ?_
  refine kRegion rfl ?_
  refine lE rfl ?_
  refine eBoxA rfl fun n6 => ?_
  refine lE rfl ?_
  refine eBoxA rfl fun n10 => ?_
  refine lE rfl ?_
  refine eBoxA rfl fun n11 => ?_
  refine lV (yAssign rfl) rfl rfl ?_
  refine lNil ?_
  refine kThen ?_
  refine kSeq ?_
  refine kSeq ?_
  refine kRegion rfl ?_
  refine lV (yFieldAddr rfl F26_1) rfl rfl ?_
  refine lV (yLoad1 rfl O24 (cOwn 2 rfl rfl)) rfl rfl ?_
  refine lV (yLen rfl S24) rfl rfl ?_
  refine lV (yGtr rfl rfl) rfl rfl ?_
  refine lV (yMove rfl) rfl rfl ?_
  refine split (t := 44) rfl (fun h44 => ?_) (fun h44 => ?_)
  · refine lGN rfl rfl rfl rfl rfl ?_
    refine lGN rfl rfl rfl rfl rfl ?_
    refine lGN rfl rfl rfl rfl rfl ?_
    refine lV (yPickT rfl rfl) rfl rfl ?_
    refine lV (yMove rfl) rfl rfl ?_
    refine lGN rfl rfl rfl rfl rfl ?_
    refine lGN rfl rfl rfl rfl rfl ?_
    refine lGN rfl rfl rfl rfl rfl ?_
    refine lGN rfl rfl rfl rfl rfl ?_
    refine lV (yPickT rfl rfl) rfl rfl ?_
    refine lNil ?_
    refine kThen ?_
    refine kIfT rfl ?_
    refine kSeq ?_
    refine kRegion rfl ?_
    refine lV (yCall rfl .n C14 (fun w hw => alive_any w)) rfl rfl ?_
    refine lV (yAssign rfl) rfl rfl ?_
    refine lNil ?_
    refine kThen ?_
    refine kRet ?_
    refine kThenR ?_
    refine fRet rfl (.t rfl .n) (endRet ?_)
    rfl
  · refine lGY rfl rfl rfl (oV (yLoadA (vs := [_, _, _]) rfl A26 (cOwn 2 rfl rfl)) rfl ?_)
    refine lGY rfl rfl rfl (oV (yCall rfl (.c rfl .n) C23 (fun w hw => rplate_any y p w (hm.eff0 hw) (by omega))) rfl ?_)
    refine knownB (t := 46) (c := false) rfl (decide_eq_false hp) ?_
    refine lGY rfl rfl rfl (oV (yNot rfl) rfl ?_)
    refine lV (yPickF rfl rfl) rfl rfl ?_
    refine lV (yMove rfl) rfl rfl ?_
    refine lGN rfl rfl rfl rfl rfl ?_
    refine lGN rfl rfl rfl rfl rfl ?_
    refine lGN rfl rfl rfl rfl rfl ?_
    refine lGN rfl rfl rfl rfl rfl ?_
    refine lV (yPickT rfl rfl) rfl rfl ?_
    refine lNil ?_
    refine kThen ?_
    refine kIfT rfl ?_
    refine kSeq ?_
    refine kRegion rfl ?_
    refine lV (yCall rfl .n C14 (fun w hw => alive_any w)) rfl rfl ?_
    refine lV (yAssign rfl) rfl rfl ?_
    refine lNil ?_
    refine kThen ?_
    refine kRet ?_
    refine kThenR ?_
    refine fRet rfl (.t rfl .n) (endRet ?_)
    rfl

set_option maxRecDepth 100000 in
set_option maxHeartbeats 8000000 in
theorem pmore_ok (y : Option Addr × Nat) (p : Plt) (a b : Int) (wh : Nat) (e m : Int × Int) (w : World) (hm : InP w y p) (hp : PltOk p) (hwh : wh < 256) :
    Calls Try.prog 9 [.agg (pltC y p).toArray, i64 a, i64 b, .int .u8 (wh : Nat), .agg (rowE e).toArray, .agg (rowE m).toArray].toArray w (Ret w (.bool true)) := by
  have hl10 := hp.n
  have hL6 : p.st.length ≤ 1000000 := by omega
  have hL30 : p.st.length ≤ 30 := by omega
  obtain ⟨dn, ed, hdn⟩ := drop_nat hp
  refine fEnter Try.func9 rfl Try.ntmps9 rfl ?_
  refine kSeq ?_
  refine kRegion rfl ?_
  refine lE rfl ?_
  refine eBoxA rfl fun n6 => ?_
  refine lE rfl ?_
  refine eBoxA rfl fun n10 => ?_
  refine lE rfl ?_
  refine eBoxA rfl fun n11 => ?_
  refine lV (yAssign rfl) rfl rfl ?_
  refine lNil ?_
  refine kThen ?_
  refine kSeq ?_
  refine kSeq ?_
  refine kRegion rfl ?_
  refine lV (yFieldAddr rfl F26_1) rfl rfl ?_
  refine lV (yLoad1 rfl O24 (cOwn 2 rfl rfl)) rfl rfl ?_
  refine lV (yLen rfl S24) rfl rfl ?_
  refine lV (yGtr rfl rfl) rfl rfl ?_
  refine knownN (t := 43) rfl (by omega) ?_
  refine lV (yMove rfl) rfl rfl ?_
  refine lGY rfl rfl rfl (oV (yLoadA (vs := [_, _, _]) rfl A26 (cOwn 2 rfl rfl)) rfl ?_)
  refine lGY rfl rfl rfl (oV (yCall rfl (.c rfl .n) C23 (fun w hw => rplate_any y p w (hm.eff0 hw) (by omega))) rfl ?_)
  refine knownB (t := 46) (c := true) rfl (decide_eq_true hp) ?_
  refine lGY rfl rfl rfl (oV (yNot rfl) rfl ?_)
  refine lV (yPickF rfl rfl) rfl rfl ?_
  refine lV (yMove rfl) rfl rfl ?_
  refine lGY rfl rfl rfl (oV (yFieldAddr rfl F26_1) rfl ?_)
  refine lGY rfl rfl rfl (oV (yLoad1 rfl O24 (cOwn 2 rfl rfl)) rfl ?_)
  refine lGY rfl rfl rfl (oV (yLen rfl S24) rfl ?_)
  refine lGY rfl rfl rfl (oV (yEql rfl rfl) rfl ?_)
  refine split (t := 53) rfl (fun h53 => ?_) (fun h53 => ?_)
  · refine lV (yPickF rfl rfl) rfl rfl ?_
    refine lNil ?_
    refine kThen ?_
    refine kIfT rfl ?_
    refine kSeq ?_
    refine kRegion rfl ?_
    refine lV (yCall rfl .n C14 (fun w hw => alive_any w)) rfl rfl ?_
    refine lV (yAssign rfl) rfl rfl ?_
    refine lNil ?_
    refine kThen ?_
    refine kRet ?_
    refine kThenR ?_
    refine fRet rfl (.t rfl .n) (endRet ?_)
    rfl
  · refine lV (yPickF rfl rfl) rfl rfl ?_
    refine lNil ?_
    refine kThen ?_
    refine kIfF rfl ?_
    refine kSkip ?_
    refine kThen ?_
    refine kSeq ?_
    refine kRegion rfl ?_
    refine lV (yMove rfl) rfl rfl ?_
    refine lV (yConvInt rfl U5 U3 (IntWalk.i64_in _ ⟨by omega, by omega⟩)) rfl rfl ?_
    refine lV (yFieldAddr rfl F26_1) rfl rfl ?_
    refine lV (yLoad1 rfl O24 (cOwn 2 rfl rfl)) rfl rfl ?_
    refine lV (yLen rfl S24) rfl rfl ?_
    refine lV (yRem rfl rfl (by omega) (by omega)) rfl rfl ?_
    refine same (t := 61) (u := i64 ((wh % p.st.length : Nat) : Int)) rfl (by rw [Int.natCast_emod]) ?_
    refine lV (yAssign rfl) rfl rfl ?_
    refine lNil ?_
    refine kThen ?_
    refine kSeq ?_
    obtain ⟨k, hk⟩ : ∃ k, k = wh % p.st.length := ⟨_, rfl⟩
    have hkl : k < p.st.length := by rw [hk]; exact Nat.mod_lt _ (by omega)
    rw [← hk]
    refine kCutX (ι := Nat × Nat × Own) (fun z => OS 9 z.2.2 ((asP p k e m).st.map rowS)) (fun z => [(14, .pointer (some ⟨z.1, 0, none⟩)), (15, .pointer (some ⟨z.2.1, 0, none⟩))]) [(0, _), (1, _), (2, _), (3, _), (4, _), (5, _), (6, _), (10, _), (11, _), (12, _), (40, _), (41, _), (42, _), (43, _), (44, _), (45, _), (46, _), (47, _), (48, _), (49, _), (50, _), (51, _), (52, _), (53, _), (54, _), (56, _), (57, _), (58, _), (59, _), (60, _), (61, _), (13, _)] (fun z => []) (fun z => ([(z.1, blk (pltC (osA z.2.2, osC z.2.2) (asP p k e m)) 26), (z.2.1, blk (pltC y p) 26)] ++ osL 58 z.2.2)) [(n11, _), (n10, _), (n6, _)] (.c rfl (.c rfl (.c rfl (.c rfl (.c rfl (.c rfl (.c rfl (.c rfl (.c rfl (.c rfl (.c rfl (.c rfl (.c rfl (.c rfl (.c rfl (.c rfl (.c rfl (.c rfl (.c rfl (.c rfl (.c rfl (.c rfl (.c rfl (.c rfl (.c rfl (.c rfl (.c rfl (.c rfl (.c rfl (.c rfl (.c rfl (.c rfl .n)))))))))))))))))))))))))))))))) (.c 0 rfl (.c 0 rfl (.c 0 rfl .n))) ?_ (fun z hg => ?_)
    · refine kDrawE [(0, none), (2, none), (3, none), (5, none)] [] [0, 1, 2, 3, 5] 5 hMix (by kernel_rfl) ?_
      refine .run rfl (yLoadA (vs := [_, _, _]) rfl A26 (cOwn 2 rfl rfl)) rfl rfl ?_
      refine .run rfl (yMove rfl) rfl rfl ?_
      refine .run rfl (yLoadA (vs := [_, _]) rfl A23 (cOwn 1 rfl rfl)) rfl rfl ?_
      refine .run rfl (yLoadA (vs := [_, _]) rfl A23 (cOwn 0 rfl rfl)) rfl rfl ?_
      refine .run rfl (yLoadA (vs := [_, _, _]) rfl A26 (cOwn 2 rfl rfl)) rfl rfl ?_
      refine .done ?_
      refine effStep 4 [6, 7] (by kernel_rfl) closedSt (hLeft [0, 2, 3, 5] (by kernel_rfl) (.c (fun _ _ hs => hs.ef) (.c (fun _ _ hs => hs.ef) (.c (fun _ _ hs => hs.ef) (.c (fun _ _ hs => hs.ef) .n))))) ?_
      refine (.c ?_ (.c ?_ (.c ?_ .n)))
      · refine effOne rfl (gNone rfl (fCallO rfl (.c rfl (.c rfl (.c rfl (.c rfl .n)))) C40 (fun w hw => as_any y p k e m w (hm.eff0 hw) hL30 hkl))) ?_
        refine effStep 6 [7] (by kernel_rfl) (closedEx fun g4 => closedSt) (hLeft [5] (by kernel_rfl) (.c (fun _ _ ⟨g4, hs⟩ => hs.ef.sub (.c 0 rfl (.c 0 rfl (.c 0 rfl .n)))) .n)) ?_
        refine (.c ?_ (.c ?_ .n))
        · refine effOne rfl (opEx fun g4 => (gNone rfl (fAlloc Z26))) ?_
          refine effStep 7 [] (by kernel_rfl) (closedEx fun g4 => (closedEx fun n14 => closedSt)) (hLeft [5] (by kernel_rfl) (.c (fun _ _ ⟨g4, ⟨n14, hs⟩⟩ => hs.ef.sub (.c 1 rfl (.c 1 rfl (.c 1 rfl .n)))) .n)) ?_
          refine .c ?_ .n
          refine effOne rfl (opEx fun g4 => (opEx fun n14 => (gNone rfl (fAlloc Z26)))) ?_
          refine effStep 8 [] (by kernel_rfl) (closedEx fun g4 => (closedEx fun n14 => (closedEx fun n15 => closedSt))) (hLeft [5] (by kernel_rfl) (.c (fun _ _ ⟨g4, ⟨n14, ⟨n15, hs⟩⟩⟩ => hs.ef.sub (.c 2 rfl (.c 2 rfl (.c 2 rfl .n)))) .n)) ?_
          refine .c ?_ .n
          refine effOne rfl (opEx fun g4 => (opEx fun n14 => (opEx fun n15 => (gNone rfl (fStoreL 1 rfl rfl rfl rfl K26 rfl (rfl)))))) ?_
          refine effStep 9 [] (by kernel_rfl) (closedEx fun g4 => (closedEx fun n14 => (closedEx fun n15 => closedSt))) (hLeft [5] (by kernel_rfl) (.c (fun _ _ ⟨g4, ⟨n14, ⟨n15, hs⟩⟩⟩ => hs.ef.sub (.c 2 rfl (.c 2 rfl (.c 2 rfl .n)))) .n)) ?_
          refine .c ?_ .n
          refine effOne rfl (opEx fun g4 => (opEx fun n14 => (opEx fun n15 => (gNone rfl (fStoreL 0 rfl rfl rfl rfl K26 rfl (rfl)))))) ?_
          refine effDone (closedEx fun g4 => (closedEx fun n14 => (closedEx fun n15 => closedSt))) (hLeft [] (by kernel_rfl) .n) (by kernel_rfl) ?_
          refine trEx fun g4 => ?_
          refine trEx fun n14 => ?_
          refine trEx fun n15 => ?_
          exact kMeetX ((n14, n15, g4.1)) (g4.2) rfl (.c rfl (.c rfl .n)) (.c rfl (.c rfl (.c rfl (.c rfl (.c rfl (.c rfl (.c rfl (.c rfl (.c rfl (.c rfl (.c rfl (.c rfl (.c rfl (.c rfl (.c rfl (.c rfl (.c rfl (.c rfl (.c rfl (.c rfl (.c rfl (.c rfl (.c rfl (.c rfl (.c rfl (.c rfl (.c rfl (.c rfl (.c rfl (.c rfl (.c rfl (.c rfl .n)))))))))))))))))))))))))))))))) (.c 2 rfl (.c 2 rfl (.c 2 rfl (.c 1 rfl (.c 0 rfl .r)))))
        · refine effOne rfl (opEx fun g4 => (gNone rfl (fAlloc Z26))) ?_
          refine effStep 6 [] (by kernel_rfl) (closedEx fun g4 => (closedEx fun n15 => closedSt)) (hLeft [5] (by kernel_rfl) (.c (fun _ _ ⟨g4, ⟨n15, hs⟩⟩ => hs.ef.sub (.c 1 rfl (.c 1 rfl (.c 1 rfl .n)))) .n)) ?_
          refine .c ?_ .n
          refine effOne rfl (opEx fun g4 => (opEx fun n15 => (gNone rfl (fAlloc Z26)))) ?_
          refine effStep 8 [] (by kernel_rfl) (closedEx fun g4 => (closedEx fun n15 => (closedEx fun n14 => closedSt))) (hLeft [5] (by kernel_rfl) (.c (fun _ _ ⟨g4, ⟨n15, ⟨n14, hs⟩⟩⟩ => hs.ef.sub (.c 2 rfl (.c 2 rfl (.c 2 rfl .n)))) .n)) ?_
          refine .c ?_ .n
          refine effOne rfl (opEx fun g4 => (opEx fun n15 => (opEx fun n14 => (gNone rfl (fStoreL 0 rfl rfl rfl rfl K26 rfl (rfl)))))) ?_
          refine effStep 9 [] (by kernel_rfl) (closedEx fun g4 => (closedEx fun n15 => (closedEx fun n14 => closedSt))) (hLeft [5] (by kernel_rfl) (.c (fun _ _ ⟨g4, ⟨n15, ⟨n14, hs⟩⟩⟩ => hs.ef.sub (.c 2 rfl (.c 2 rfl (.c 2 rfl .n)))) .n)) ?_
          refine .c ?_ .n
          refine effOne rfl (opEx fun g4 => (opEx fun n15 => (opEx fun n14 => (gNone rfl (fStoreL 1 rfl rfl rfl rfl K26 rfl (rfl)))))) ?_
          refine effDone (closedEx fun g4 => (closedEx fun n15 => (closedEx fun n14 => closedSt))) (hLeft [] (by kernel_rfl) .n) (by kernel_rfl) ?_
          refine trEx fun g4 => ?_
          refine trEx fun n15 => ?_
          refine trEx fun n14 => ?_
          exact kMeetX ((n14, n15, g4.1)) (g4.2) rfl (.c rfl (.c rfl .n)) (.c rfl (.c rfl (.c rfl (.c rfl (.c rfl (.c rfl (.c rfl (.c rfl (.c rfl (.c rfl (.c rfl (.c rfl (.c rfl (.c rfl (.c rfl (.c rfl (.c rfl (.c rfl (.c rfl (.c rfl (.c rfl (.c rfl (.c rfl (.c rfl (.c rfl (.c rfl (.c rfl (.c rfl (.c rfl (.c rfl (.c rfl (.c rfl .n)))))))))))))))))))))))))))))))) (.c 2 rfl (.c 2 rfl (.c 2 rfl (.c 0 rfl (.c 0 rfl .r)))))
      · refine effOne rfl (gNone rfl (fAlloc Z26)) ?_
        refine effStep 4 [7] (by kernel_rfl) (closedEx fun n14 => closedSt) (hLeft [0, 2, 3, 5] (by kernel_rfl) (.c (fun _ _ ⟨n14, hs⟩ => hs.ef.sub (.c 1 rfl (.c 1 rfl (.c 1 rfl .n)))) (.c (fun _ _ ⟨n14, hs⟩ => hs.ef.sub (.c 1 rfl (.c 1 rfl (.c 1 rfl .n)))) (.c (fun _ _ ⟨n14, hs⟩ => hs.ef.sub (.c 1 rfl (.c 1 rfl (.c 1 rfl .n)))) (.c (fun _ _ ⟨n14, hs⟩ => hs.ef.sub (.c 1 rfl (.c 1 rfl (.c 1 rfl .n)))) .n))))) ?_
        refine (.c ?_ (.c ?_ .n))
        · refine effOne rfl (opEx fun n14 => (gNone rfl (fCallO rfl (.c rfl (.c rfl (.c rfl (.c rfl .n)))) C40 (fun w hw => as_any y p k e m w (hm.eff0 hw) hL30 hkl)))) ?_
          refine effStep 7 [] (by kernel_rfl) (closedEx fun n14 => (closedEx fun g4 => closedSt)) (hLeft [5] (by kernel_rfl) (.c (fun _ _ ⟨n14, ⟨g4, hs⟩⟩ => hs.ef.sub (.c 1 rfl (.c 1 rfl (.c 1 rfl .n)))) .n)) ?_
          refine .c ?_ .n
          refine effOne rfl (opEx fun n14 => (opEx fun g4 => (gNone rfl (fAlloc Z26)))) ?_
          refine effStep 8 [] (by kernel_rfl) (closedEx fun n14 => (closedEx fun g4 => (closedEx fun n15 => closedSt))) (hLeft [5] (by kernel_rfl) (.c (fun _ _ ⟨n14, ⟨g4, ⟨n15, hs⟩⟩⟩ => hs.ef.sub (.c 2 rfl (.c 2 rfl (.c 2 rfl .n)))) .n)) ?_
          refine .c ?_ .n
          refine effOne rfl (opEx fun n14 => (opEx fun g4 => (opEx fun n15 => (gNone rfl (fStoreL 1 rfl rfl rfl rfl K26 rfl (rfl)))))) ?_
          refine effStep 9 [] (by kernel_rfl) (closedEx fun n14 => (closedEx fun g4 => (closedEx fun n15 => closedSt))) (hLeft [5] (by kernel_rfl) (.c (fun _ _ ⟨n14, ⟨g4, ⟨n15, hs⟩⟩⟩ => hs.ef.sub (.c 2 rfl (.c 2 rfl (.c 2 rfl .n)))) .n)) ?_
          refine .c ?_ .n
          refine effOne rfl (opEx fun n14 => (opEx fun g4 => (opEx fun n15 => (gNone rfl (fStoreL 0 rfl rfl rfl rfl K26 rfl (rfl)))))) ?_
          refine effDone (closedEx fun n14 => (closedEx fun g4 => (closedEx fun n15 => closedSt))) (hLeft [] (by kernel_rfl) .n) (by kernel_rfl) ?_
          refine trEx fun n14 => ?_
          refine trEx fun g4 => ?_
          refine trEx fun n15 => ?_
          exact kMeetX ((n14, n15, g4.1)) (g4.2) rfl (.c rfl (.c rfl .n)) (.c rfl (.c rfl (.c rfl (.c rfl (.c rfl (.c rfl (.c rfl (.c rfl (.c rfl (.c rfl (.c rfl (.c rfl (.c rfl (.c rfl (.c rfl (.c rfl (.c rfl (.c rfl (.c rfl (.c rfl (.c rfl (.c rfl (.c rfl (.c rfl (.c rfl (.c rfl (.c rfl (.c rfl (.c rfl (.c rfl (.c rfl (.c rfl .n)))))))))))))))))))))))))))))))) (.c 2 rfl (.c 2 rfl (.c 2 rfl (.c 1 rfl (.c 0 rfl .r)))))
        · refine effOne rfl (opEx fun n14 => (gNone rfl (fAlloc Z26))) ?_
          refine effStep 4 [] (by kernel_rfl) (closedEx fun n14 => (closedEx fun n15 => closedSt)) (hLeft [0, 2, 3, 5] (by kernel_rfl) (.c (fun _ _ ⟨n14, ⟨n15, hs⟩⟩ => hs.ef.sub (.c 2 rfl (.c 2 rfl (.c 2 rfl .n)))) (.c (fun _ _ ⟨n14, ⟨n15, hs⟩⟩ => hs.ef.sub (.c 2 rfl (.c 2 rfl (.c 2 rfl .n)))) (.c (fun _ _ ⟨n14, ⟨n15, hs⟩⟩ => hs.ef.sub (.c 2 rfl (.c 2 rfl (.c 2 rfl .n)))) (.c (fun _ _ ⟨n14, ⟨n15, hs⟩⟩ => hs.ef.sub (.c 2 rfl (.c 2 rfl (.c 2 rfl .n)))) .n))))) ?_
          refine .c ?_ .n
          refine effOne rfl (opEx fun n14 => (opEx fun n15 => (gNone rfl (fCallO rfl (.c rfl (.c rfl (.c rfl (.c rfl .n)))) C40 (fun w hw => as_any y p k e m w (hm.eff0 hw) hL30 hkl))))) ?_
          refine effStep 8 [] (by kernel_rfl) (closedEx fun n14 => (closedEx fun n15 => (closedEx fun g4 => closedSt))) (hLeft [5] (by kernel_rfl) (.c (fun _ _ ⟨n14, ⟨n15, ⟨g4, hs⟩⟩⟩ => hs.ef.sub (.c 2 rfl (.c 2 rfl (.c 2 rfl .n)))) .n)) ?_
          refine .c ?_ .n
          refine effOne rfl (opEx fun n14 => (opEx fun n15 => (opEx fun g4 => (gNone rfl (fStoreL 1 rfl rfl rfl rfl K26 rfl (rfl)))))) ?_
          refine effStep 9 [] (by kernel_rfl) (closedEx fun n14 => (closedEx fun n15 => (closedEx fun g4 => closedSt))) (hLeft [5] (by kernel_rfl) (.c (fun _ _ ⟨n14, ⟨n15, ⟨g4, hs⟩⟩⟩ => hs.ef.sub (.c 2 rfl (.c 2 rfl (.c 2 rfl .n)))) .n)) ?_
          refine .c ?_ .n
          refine effOne rfl (opEx fun n14 => (opEx fun n15 => (opEx fun g4 => (gNone rfl (fStoreL 0 rfl rfl rfl rfl K26 rfl (rfl)))))) ?_
          refine effDone (closedEx fun n14 => (closedEx fun n15 => (closedEx fun g4 => closedSt))) (hLeft [] (by kernel_rfl) .n) (by kernel_rfl) ?_
          refine trEx fun n14 => ?_
          refine trEx fun n15 => ?_
          refine trEx fun g4 => ?_
          exact kMeetX ((n14, n15, g4.1)) (g4.2) rfl (.c rfl (.c rfl .n)) (.c rfl (.c rfl (.c rfl (.c rfl (.c rfl (.c rfl (.c rfl (.c rfl (.c rfl (.c rfl (.c rfl (.c rfl (.c rfl (.c rfl (.c rfl (.c rfl (.c rfl (.c rfl (.c rfl (.c rfl (.c rfl (.c rfl (.c rfl (.c rfl (.c rfl (.c rfl (.c rfl (.c rfl (.c rfl (.c rfl (.c rfl (.c rfl .n)))))))))))))))))))))))))))))))) (.c 2 rfl (.c 2 rfl (.c 2 rfl (.c 1 rfl (.c 0 rfl .r)))))
      · refine effOne rfl (gNone rfl (fAlloc Z26)) ?_
        refine effStep 4 [6] (by kernel_rfl) (closedEx fun n15 => closedSt) (hLeft [0, 2, 3, 5] (by kernel_rfl) (.c (fun _ _ ⟨n15, hs⟩ => hs.ef.sub (.c 1 rfl (.c 1 rfl (.c 1 rfl .n)))) (.c (fun _ _ ⟨n15, hs⟩ => hs.ef.sub (.c 1 rfl (.c 1 rfl (.c 1 rfl .n)))) (.c (fun _ _ ⟨n15, hs⟩ => hs.ef.sub (.c 1 rfl (.c 1 rfl (.c 1 rfl .n)))) (.c (fun _ _ ⟨n15, hs⟩ => hs.ef.sub (.c 1 rfl (.c 1 rfl (.c 1 rfl .n)))) .n))))) ?_
        refine (.c ?_ (.c ?_ .n))
        · refine effOne rfl (opEx fun n15 => (gNone rfl (fCallO rfl (.c rfl (.c rfl (.c rfl (.c rfl .n)))) C40 (fun w hw => as_any y p k e m w (hm.eff0 hw) hL30 hkl)))) ?_
          refine effStep 6 [] (by kernel_rfl) (closedEx fun n15 => (closedEx fun g4 => closedSt)) (hLeft [5] (by kernel_rfl) (.c (fun _ _ ⟨n15, ⟨g4, hs⟩⟩ => hs.ef.sub (.c 1 rfl (.c 1 rfl (.c 1 rfl .n)))) .n)) ?_
          refine .c ?_ .n
          refine effOne rfl (opEx fun n15 => (opEx fun g4 => (gNone rfl (fAlloc Z26)))) ?_
          refine effStep 8 [] (by kernel_rfl) (closedEx fun n15 => (closedEx fun g4 => (closedEx fun n14 => closedSt))) (hLeft [5] (by kernel_rfl) (.c (fun _ _ ⟨n15, ⟨g4, ⟨n14, hs⟩⟩⟩ => hs.ef.sub (.c 2 rfl (.c 2 rfl (.c 2 rfl .n)))) .n)) ?_
          refine .c ?_ .n
          refine effOne rfl (opEx fun n15 => (opEx fun g4 => (opEx fun n14 => (gNone rfl (fStoreL 0 rfl rfl rfl rfl K26 rfl (rfl)))))) ?_
          refine effStep 9 [] (by kernel_rfl) (closedEx fun n15 => (closedEx fun g4 => (closedEx fun n14 => closedSt))) (hLeft [5] (by kernel_rfl) (.c (fun _ _ ⟨n15, ⟨g4, ⟨n14, hs⟩⟩⟩ => hs.ef.sub (.c 2 rfl (.c 2 rfl (.c 2 rfl .n)))) .n)) ?_
          refine .c ?_ .n
          refine effOne rfl (opEx fun n15 => (opEx fun g4 => (opEx fun n14 => (gNone rfl (fStoreL 1 rfl rfl rfl rfl K26 rfl (rfl)))))) ?_
          refine effDone (closedEx fun n15 => (closedEx fun g4 => (closedEx fun n14 => closedSt))) (hLeft [] (by kernel_rfl) .n) (by kernel_rfl) ?_
          refine trEx fun n15 => ?_
          refine trEx fun g4 => ?_
          refine trEx fun n14 => ?_
          exact kMeetX ((n14, n15, g4.1)) (g4.2) rfl (.c rfl (.c rfl .n)) (.c rfl (.c rfl (.c rfl (.c rfl (.c rfl (.c rfl (.c rfl (.c rfl (.c rfl (.c rfl (.c rfl (.c rfl (.c rfl (.c rfl (.c rfl (.c rfl (.c rfl (.c rfl (.c rfl (.c rfl (.c rfl (.c rfl (.c rfl (.c rfl (.c rfl (.c rfl (.c rfl (.c rfl (.c rfl (.c rfl (.c rfl (.c rfl .n)))))))))))))))))))))))))))))))) (.c 2 rfl (.c 2 rfl (.c 2 rfl (.c 0 rfl (.c 0 rfl .r)))))
        · refine effOne rfl (opEx fun n15 => (gNone rfl (fAlloc Z26))) ?_
          refine effStep 4 [] (by kernel_rfl) (closedEx fun n15 => (closedEx fun n14 => closedSt)) (hLeft [0, 2, 3, 5] (by kernel_rfl) (.c (fun _ _ ⟨n15, ⟨n14, hs⟩⟩ => hs.ef.sub (.c 2 rfl (.c 2 rfl (.c 2 rfl .n)))) (.c (fun _ _ ⟨n15, ⟨n14, hs⟩⟩ => hs.ef.sub (.c 2 rfl (.c 2 rfl (.c 2 rfl .n)))) (.c (fun _ _ ⟨n15, ⟨n14, hs⟩⟩ => hs.ef.sub (.c 2 rfl (.c 2 rfl (.c 2 rfl .n)))) (.c (fun _ _ ⟨n15, ⟨n14, hs⟩⟩ => hs.ef.sub (.c 2 rfl (.c 2 rfl (.c 2 rfl .n)))) .n))))) ?_
          refine .c ?_ .n
          refine effOne rfl (opEx fun n15 => (opEx fun n14 => (gNone rfl (fCallO rfl (.c rfl (.c rfl (.c rfl (.c rfl .n)))) C40 (fun w hw => as_any y p k e m w (hm.eff0 hw) hL30 hkl))))) ?_
          refine effStep 8 [] (by kernel_rfl) (closedEx fun n15 => (closedEx fun n14 => (closedEx fun g4 => closedSt))) (hLeft [5] (by kernel_rfl) (.c (fun _ _ ⟨n15, ⟨n14, ⟨g4, hs⟩⟩⟩ => hs.ef.sub (.c 2 rfl (.c 2 rfl (.c 2 rfl .n)))) .n)) ?_
          refine .c ?_ .n
          refine effOne rfl (opEx fun n15 => (opEx fun n14 => (opEx fun g4 => (gNone rfl (fStoreL 0 rfl rfl rfl rfl K26 rfl (rfl)))))) ?_
          refine effStep 9 [] (by kernel_rfl) (closedEx fun n15 => (closedEx fun n14 => (closedEx fun g4 => closedSt))) (hLeft [5] (by kernel_rfl) (.c (fun _ _ ⟨n15, ⟨n14, ⟨g4, hs⟩⟩⟩ => hs.ef.sub (.c 2 rfl (.c 2 rfl (.c 2 rfl .n)))) .n)) ?_
          refine .c ?_ .n
          refine effOne rfl (opEx fun n15 => (opEx fun n14 => (opEx fun g4 => (gNone rfl (fStoreL 1 rfl rfl rfl rfl K26 rfl (rfl)))))) ?_
          refine effDone (closedEx fun n15 => (closedEx fun n14 => (closedEx fun g4 => closedSt))) (hLeft [] (by kernel_rfl) .n) (by kernel_rfl) ?_
          refine trEx fun n15 => ?_
          refine trEx fun n14 => ?_
          refine trEx fun g4 => ?_
          exact kMeetX ((n14, n15, g4.1)) (g4.2) rfl (.c rfl (.c rfl .n)) (.c rfl (.c rfl (.c rfl (.c rfl (.c rfl (.c rfl (.c rfl (.c rfl (.c rfl (.c rfl (.c rfl (.c rfl (.c rfl (.c rfl (.c rfl (.c rfl (.c rfl (.c rfl (.c rfl (.c rfl (.c rfl (.c rfl (.c rfl (.c rfl (.c rfl (.c rfl (.c rfl (.c rfl (.c rfl (.c rfl (.c rfl (.c rfl .n)))))))))))))))))))))))))))))))) (.c 2 rfl (.c 2 rfl (.c 2 rfl (.c 0 rfl (.c 0 rfl .r)))))
    · obtain ⟨n14, n15, g⟩ := z
      dsimp only at hg ⊢
      refine kSeq ?_
      refine kSeq ?_
      refine kRegion rfl ?_
      refine lV (yFieldAddr rfl F26_1) rfl rfl ?_
      refine lV (yLoad1 rfl O24 (cOwn 2 rfl rfl)) rfl rfl ?_
      refine lV (yMove rfl) rfl rfl ?_
      refine lV (yIndexS  rfl rfl S24 (hm.r) (hkl)) rfl rfl ?_
      refine lV (yFieldAddr rfl F58_2) rfl rfl ?_
      refine lV (yLoad1 rfl O4 (cSl (k := 4) (hm.r) (hkl) rfl)) rfl rfl ?_
      refine lNil ?_
      refine kThen ?_
      refine kCutX (ι := (Option Addr × Nat) × Plt) (fun z => (∀ w', Eff w [] (osL 58 g) w' → InP w' z.1 z.2) ∧ z.2.st.length = p.st.length ∧ Finer z.2 p) (fun z => []) [(1, _), (2, _), (3, _), (6, _), (10, _), (11, _), (12, _), (13, _), (14, _), (15, _)] (fun z => []) (fun z => ([(n14, blk (pltC z.1 z.2) 26), (n15, blk (pltC y p) 26)] ++ osL 58 g)) [(n11, _), (n10, _), (n6, _)] (.c rfl (.c rfl (.c rfl (.c rfl (.c rfl (.c rfl (.c rfl (.c rfl (.c rfl (.c rfl .n)))))))))) (.c 0 rfl (.c 0 rfl (.c 0 rfl .n))) ?_ (fun z hz => ?_)
      · refine splitB (t := 73) rfl (fun h73 => ?_) (fun h73 => ?_)
        · refine kIfT rfl ?_
          refine kRegion rfl ?_
          refine lV (yLoadA (vs := [_, _, _]) rfl A26 (cOwn 2 rfl rfl)) rfl rfl ?_
          refine lE rfl ?_
          refine eStoreL 3 rfl rfl rfl rfl K26 rfl (rfl) ?_
          refine lNil ?_
          exact kMeetX ((y, p)) (⟨fun w' hw' => SlE.eff0 hm hw', rfl, Finer.refl p⟩) rfl .n (.c rfl (.c rfl (.c rfl (.c rfl (.c rfl (.c rfl (.c rfl (.c rfl (.c rfl (.c rfl .n)))))))))) (.c 0 rfl (.c 0 rfl (.c 0 rfl (.c 0 rfl (.c 0 rfl .r)))))
        · refine kIfF rfl ?_
          refine kSkip ?_
          exact kMeetX (((osA g, osC g), asP p k e m)) (⟨fun w' hw' => OS.rowsE (f := rowS) star0 hg hw' .r, as_len p k e m, as_fine hkl h73⟩) rfl .n (.c rfl (.c rfl (.c rfl (.c rfl (.c rfl (.c rfl (.c rfl (.c rfl (.c rfl (.c rfl .n)))))))))) (.c 0 rfl (.c 0 rfl (.c 0 rfl (.c 0 rfl (.c 0 rfl .r)))))
      · obtain ⟨yx, X⟩ := z
        obtain ⟨hxi, hxl, hxf⟩ := hz
        dsimp only at hxi hxl hxf ⊢
        obtain ⟨G, hG⟩ : ∃ G : Heap, osL 58 g = G := ⟨_, rfl⟩
        rw [hG] at hxi ⊢
        refine kSeq ?_
        refine kRegion rfl ?_
        refine lE rfl ?_
        refine eBuildSlice .n (fun w => BS24_0_ w) fun n75 => ?_
        refine lV (yFieldAddr rfl F26_1) rfl rfl ?_
        refine lV (yLoad1 rfl O24 (cOwn 3 rfl rfl)) rfl rfl ?_
        refine lE rfl ?_
        skip
        refine eAppend (gs := .b n75 0 []) ([(n11, _), (n10, _), (n6, _), (n14, _), (n15, _)] ++ G) (es := []) (p.st.map rowS) AP24 rfl rfl (.c 1 rfl (.c 1 rfl (.c 1 rfl (.c 1 rfl (.c 1 rfl (SubP.comm _ _)))))) (OS.lit (es := []) (by simp) rfl (by simp)) (by simp) (rowsS_len p.st) (flatten_range (f := rowS) p.st star0 ▸ SlN.sl hm.r) (rowsS_one p.st) (by simp; omega) (by simp; omega) fun g0 hg0 => ?_
        rw [List.nil_append] at hg0
        rw [show (([] : List (List Value)) ++ p.st.map rowS).length = p.st.length from by simp]
        refine lV (yFieldAddr rfl F26_1) rfl rfl ?_
        refine lE rfl ?_
        refine eStoreL 4 rfl rfl rfl rfl K24 rfl (rfl) ?_
        refine lNil ?_
        refine kThen ?_
        refine kSeq ?_
        refine kRegion rfl ?_
        refine lV (yFieldAddr rfl F26_1) rfl rfl ?_
        refine lV (yLoad1 rfl O24 (cOwn 4 rfl rfl)) rfl rfl ?_
        refine lV (yMove rfl) rfl rfl ?_
        refine lV (yIndexS  rfl rfl S24 ((fun w hw => OS.rowsE (f := rowS) star0 hg0 hw (.d 0 (.d 0 (.d 0 (.d 0 (.d 0 SubP.tail))))))) (hkl)) rfl rfl ?_
        refine lV (yAssign rfl) rfl rfl ?_
        refine lNil ?_
        refine kThen ?_
        refine kSeq ?_
        refine kSeq ?_
        have hl0 : k < (p.st.map rowS).length := by rw [List.length_map]; exact hkl
        have hsv := hp.s _ (getD_mem hkl star0)
        have hsx := hsv.1
        have hsy := hsv.2.1
        have hsc := hp.c
        unfold spanOk at hsx hsy hsc
        refine kRegion rfl ?_
        refine lV (yMove rfl) rfl rfl ?_
        refine lV (yConvInt rfl U5 U3 (IntWalk.i64_in _ ⟨by omega, by omega⟩)) rfl rfl ?_
        refine lV (yFieldAddr rfl F26_1) rfl rfl ?_
        refine lV (yLoad1 rfl O24 (cOwn 2 rfl rfl)) rfl rfl ?_
        refine lV (yLen rfl S24) rfl rfl ?_
        refine lV (yQuo rfl rfl (by omega) (by omega) (by omega)) rfl rfl ?_
        refine lV (yRem rfl rfl (Int.ediv_nonneg (Int.natCast_nonneg _) (Int.natCast_nonneg _)) (by omega)) rfl rfl ?_
        refine lNil ?_
        refine kThen ?_
        refine kBlock ?_
        refine kSeq ?_
        refine kRegion rfl ?_
        refine lV (yEql rfl rfl) rfl rfl ?_
        refine lV (yAssign rfl) rfl rfl ?_
        refine lNil ?_
        refine kThen ?_
        refine kCutQ (ι := Plt × Own) (fun u => OS 9 u.2 (u.1.st.map rowS) ∧ osA u.2 = osA g0 ∧ u.1.st.length = p.st.length ∧ Finer u.1 p) (fun u => []) [(1, _), (2, _), (3, _), (6, _), (10, _), (11, _), (12, _), (13, _), (14, _), (15, _)] (fun u => []) (fun u => ([(n15, blk [i64 u.1.sc.1, i64 u.1.sc.2, .slice (osA g0) p.st.length (osC g0)] 26)] ++ (G ++ osL 58 u.2))) [(n11, _), (n10, _), (n6, _), (n14, _)] (.c rfl (.c rfl (.c rfl (.c rfl (.c rfl (.c rfl (.c rfl (.c rfl (.c rfl (.c rfl .n)))))))))) (.c 0 rfl (.c 0 rfl (.c 0 rfl (.c 0 rfl .n)))) ?_ (fun u hu => ?_)
        · refine split (t := 101) rfl (fun h101 => ?_) (fun h101 => ?_)
          · refine kIfT rfl ?_
            refine kDrawE [(6, none), (11, none), (18, none), (23, none)] [] [0, 1, 2, 3, 4, 5, 6, 7, 8, 9, 10, 11, 12, 13, 14, 15, 16, 17, 18, 19, 20, 21, 22, 23, 24, 25, 26, 27, 28, 30, 31, 32] 2 hMix (by kernel_rfl) ?_
            refine .run rfl (yMove rfl) rfl rfl ?_
            refine .run rfl (yMove rfl) rfl rfl ?_
            refine .run rfl (yMove rfl) rfl rfl ?_
            refine .run rfl (yNilCheckP rfl) rfl rfl ?_
            refine .run rfl (yFieldAddr rfl F58_0) rfl rfl ?_
            refine .run rfl (yFieldAddr rfl F23_1) rfl rfl ?_
            refine .run rfl (yLoad1 rfl O3 (cSl (k := 1) ((fun w hw => OS.rowsE (f := rowS) star0 hg0 hw (.d 0 (.d 0 (.d 0 (.d 0 (.d 0 SubP.tail))))))) (hkl) rfl)) rfl rfl ?_
            refine .run rfl (yMove rfl) rfl rfl ?_
            refine .run rfl (yNilCheckP rfl) rfl rfl ?_
            refine .run rfl (yFieldAddr rfl F58_0) rfl rfl ?_
            refine .run rfl (yFieldAddr rfl F23_0) rfl rfl ?_
            refine .run rfl (yLoad1 rfl O3 (cSl ((fun w hw => OS.rowsE (f := rowS) star0 hg0 hw (.d 0 (.d 0 (.d 0 (.d 0 (.d 0 SubP.tail))))))) (hkl) rfl)) rfl rfl ?_
            refine .run rfl (yAdd rfl rfl (by omega)) rfl rfl ?_
            refine .run rfl (yMin rfl rfl) rfl rfl ?_
            refine .run rfl (yMove rfl) rfl rfl ?_
            refine .run rfl (yNilCheckP rfl) rfl rfl ?_
            refine .run rfl (yFieldAddr rfl F58_1) rfl rfl ?_
            refine .run rfl (yFieldAddr rfl F23_0) rfl rfl ?_
            refine .run rfl (yLoad1 rfl O3 (cSl (k := 2) ((fun w hw => OS.rowsE (f := rowS) star0 hg0 hw (.d 0 (.d 0 (.d 0 (.d 0 (.d 0 SubP.tail))))))) (hkl) rfl)) rfl rfl ?_
            refine .run rfl (yMove rfl) rfl rfl ?_
            refine .run rfl (yNilCheckP rfl) rfl rfl ?_
            refine .run rfl (yFieldAddr rfl F58_1) rfl rfl ?_
            refine .run rfl (yFieldAddr rfl F23_1) rfl rfl ?_
            refine .run rfl (yLoad1 rfl O3 (cSl (k := 3) ((fun w hw => OS.rowsE (f := rowS) star0 hg0 hw (.d 0 (.d 0 (.d 0 (.d 0 (.d 0 SubP.tail))))))) (hkl) rfl)) rfl rfl ?_
            refine .run rfl (ySub rfl rfl (by omega)) rfl rfl ?_
            refine .run rfl (yMax rfl rfl) rfl rfl ?_
            refine .run rfl (yNilCheckP rfl) rfl rfl ?_
            refine .run rfl (yFieldAddr rfl F58_0) rfl rfl ?_
            refine .run rfl (yFieldAddr rfl F23_0) rfl rfl ?_
            refine .run rfl (yNilCheckP rfl) rfl rfl ?_
            refine .run rfl (yFieldAddr rfl F58_1) rfl rfl ?_
            refine .run rfl (yFieldAddr rfl F23_1) rfl rfl ?_
            refine .done ?_
            refine effStep 29 [] (by kernel_rfl) closedSt (hLeft [6, 11, 18, 23] (by kernel_rfl) (.c (fun _ _ hs => hs.ef) (.c (fun _ _ hs => hs.ef) (.c (fun _ _ hs => hs.ef) (.c (fun _ _ hs => hs.ef) .n))))) ?_
            refine .c ?_ .n
            refine effOne rfl (gNone rfl (eStoreRow (X := ([(n11, _), (n10, _), (n6, _), (n14, _), (n15, _)] ++ G)) (gs := g0) (sz := 9) (k := k) (o := 0) (vs := [i64 (min (p.st.getD k star0).x.2 ((p.st.getD k star0).x.1 + 1))]) rfl rfl rfl rfl K3 rfl hg0 hl0 (Nat.le_of_ble_eq_true rfl) trSelf)) ?_
            refine effStep 33 [] (by kernel_rfl) closedSt (hLeft [] (by kernel_rfl) .n) ?_
            refine .c ?_ .n
            refine effOne rfl (gNone rfl (eStoreRow (X := ([(n11, _), (n10, _), (n6, _), (n14, _), (n15, _)] ++ G)) (gs := rowSet 9 g0 k 0 [i64 (min (p.st.getD k star0).x.2 ((p.st.getD k star0).x.1 + 1))]) (sz := 9) (k := k) (o := 3) (vs := [i64 (max (p.st.getD k star0).y.1 ((p.st.getD k star0).y.2 - 1))]) (by rw [rowSet_A]; rfl) rfl rfl rfl K3 rfl (hg0.rowSet (k := k) (o := 0) (vs := [i64 (min (p.st.getD k star0).x.2 ((p.st.getD k star0).x.1 + 1))]) hl0 (Nat.le_of_ble_eq_true rfl)) (by rw [List.length_set]; exact hl0) (Nat.le_of_ble_eq_true rfl) trSelf)) ?_
            refine effDone closedSt (hLeft [] (by kernel_rfl) .n) (by kernel_rfl) ?_
            exact kMeetX ((setP p k (nar0 (p.st.getD k star0)), (rowSet 9 (rowSet 9 g0 k 0 [i64 (min (p.st.getD k star0).x.2 ((p.st.getD k star0).x.1 + 1))]) k 3 [i64 (max (p.st.getD k star0).y.1 ((p.st.getD k star0).y.2 - 1))]))) (⟨by dsimp only; have h1 := hg0.rowSet (k := k) (o := 0) (vs := [i64 (min (p.st.getD k star0).x.2 ((p.st.getD k star0).x.1 + 1))]) hl0 (Nat.le_of_ble_eq_true rfl); have h2 := h1.rowSet (k := k) (o := 3) (vs := [i64 (max (p.st.getD k star0).y.1 ((p.st.getD k star0).y.2 - 1))]) (by rw [List.length_set]; exact hl0) (Nat.le_of_ble_eq_true rfl); rw [rows2 hkl] at h2; unfold setP; rw [List.map_set]; exact h2, by rw [rowSet_A, rowSet_A], List.length_set, nar0_fine hp hkl⟩) rfl .n (.c rfl (.c rfl (.c rfl (.c rfl (.c rfl (.c rfl (.c rfl (.c rfl (.c rfl (.c rfl .n)))))))))) (.c 0 rfl (.c 0 rfl (.c 0 rfl (.c 0 rfl (.c 0 rfl .r)))))
          · refine kIfF rfl ?_
            refine kSeq ?_
            refine kRegion rfl ?_
            refine lV (yEql rfl rfl) rfl rfl ?_
            refine lV (yAssign rfl) rfl rfl ?_
            refine lNil ?_
            refine kThen ?_
            refine split (t := 135) rfl (fun h135 => ?_) (fun h135 => ?_)
            · refine kIfT rfl ?_
              refine kDrawE [(6, none), (11, none), (18, none), (23, none)] [] [0, 1, 2, 3, 4, 5, 6, 7, 8, 9, 10, 11, 12, 13, 14, 15, 16, 17, 18, 19, 20, 21, 22, 23, 24, 25, 26, 27, 28, 30, 31, 32] 2 hMix (by kernel_rfl) ?_
              refine .run rfl (yMove rfl) rfl rfl ?_
              refine .run rfl (yMove rfl) rfl rfl ?_
              refine .run rfl (yMove rfl) rfl rfl ?_
              refine .run rfl (yNilCheckP rfl) rfl rfl ?_
              refine .run rfl (yFieldAddr rfl F58_3) rfl rfl ?_
              refine .run rfl (yFieldAddr rfl F23_0) rfl rfl ?_
              refine .run rfl (yLoad1 rfl O3 (cSl (k := 5) ((fun w hw => OS.rowsE (f := rowS) star0 hg0 hw (.d 0 (.d 0 (.d 0 (.d 0 (.d 0 SubP.tail))))))) (hkl) rfl)) rfl rfl ?_
              refine .run rfl (yMove rfl) rfl rfl ?_
              refine .run rfl (yNilCheckP rfl) rfl rfl ?_
              refine .run rfl (yFieldAddr rfl F58_3) rfl rfl ?_
              refine .run rfl (yFieldAddr rfl F23_1) rfl rfl ?_
              refine .run rfl (yLoad1 rfl O3 (cSl (k := 6) ((fun w hw => OS.rowsE (f := rowS) star0 hg0 hw (.d 0 (.d 0 (.d 0 (.d 0 (.d 0 SubP.tail))))))) (hkl) rfl)) rfl rfl ?_
              refine .run rfl (yArith rfl rfl ((.inr (.inl ⟨rfl, rfl⟩)))) rfl rfl ?_
              refine .run rfl (yMax rfl rfl) rfl rfl ?_
              refine .run rfl (yMove rfl) rfl rfl ?_
              refine .run rfl (yNilCheckP rfl) rfl rfl ?_
              refine .run rfl (yFieldAddr rfl F58_4) rfl rfl ?_
              refine .run rfl (yFieldAddr rfl F23_1) rfl rfl ?_
              refine .run rfl (yLoad1 rfl O3 (cSl (k := 8) ((fun w hw => OS.rowsE (f := rowS) star0 hg0 hw (.d 0 (.d 0 (.d 0 (.d 0 (.d 0 SubP.tail))))))) (hkl) rfl)) rfl rfl ?_
              refine .run rfl (yMove rfl) rfl rfl ?_
              refine .run rfl (yNilCheckP rfl) rfl rfl ?_
              refine .run rfl (yFieldAddr rfl F58_4) rfl rfl ?_
              refine .run rfl (yFieldAddr rfl F23_0) rfl rfl ?_
              refine .run rfl (yLoad1 rfl O3 (cSl (k := 7) ((fun w hw => OS.rowsE (f := rowS) star0 hg0 hw (.d 0 (.d 0 (.d 0 (.d 0 (.d 0 SubP.tail))))))) (hkl) rfl)) rfl rfl ?_
              refine .run rfl (yArith rfl rfl ((.inl ⟨rfl, rfl⟩))) rfl rfl ?_
              refine .run rfl (yMin rfl rfl) rfl rfl ?_
              refine .run rfl (yNilCheckP rfl) rfl rfl ?_
              refine .run rfl (yFieldAddr rfl F58_3) rfl rfl ?_
              refine .run rfl (yFieldAddr rfl F23_1) rfl rfl ?_
              refine .run rfl (yNilCheckP rfl) rfl rfl ?_
              refine .run rfl (yFieldAddr rfl F58_4) rfl rfl ?_
              refine .run rfl (yFieldAddr rfl F23_0) rfl rfl ?_
              refine .done ?_
              refine effStep 29 [] (by kernel_rfl) closedSt (hLeft [6, 11, 18, 23] (by kernel_rfl) (.c (fun _ _ hs => hs.ef) (.c (fun _ _ hs => hs.ef) (.c (fun _ _ hs => hs.ef) (.c (fun _ _ hs => hs.ef) .n))))) ?_
              refine .c ?_ .n
              refine effOne rfl (gNone rfl (eStoreRow (X := ([(n11, _), (n10, _), (n6, _), (n14, _), (n15, _)] ++ G)) (gs := g0) (sz := 9) (k := k) (o := 6) (vs := [i64 (max (p.st.getD k star0).e.1 (IntKind.i64.wrap ((p.st.getD k star0).e.2 - 1)))]) rfl rfl rfl rfl K3 rfl hg0 hl0 (Nat.le_of_ble_eq_true rfl) trSelf)) ?_
              refine effStep 33 [] (by kernel_rfl) closedSt (hLeft [] (by kernel_rfl) .n) ?_
              refine .c ?_ .n
              refine effOne rfl (gNone rfl (eStoreRow (X := ([(n11, _), (n10, _), (n6, _), (n14, _), (n15, _)] ++ G)) (gs := rowSet 9 g0 k 6 [i64 (max (p.st.getD k star0).e.1 (IntKind.i64.wrap ((p.st.getD k star0).e.2 - 1)))]) (sz := 9) (k := k) (o := 7) (vs := [i64 (min (p.st.getD k star0).n.2 (IntKind.i64.wrap ((p.st.getD k star0).n.1 + 1)))]) (by rw [rowSet_A]; rfl) rfl rfl rfl K3 rfl (hg0.rowSet (k := k) (o := 6) (vs := [i64 (max (p.st.getD k star0).e.1 (IntKind.i64.wrap ((p.st.getD k star0).e.2 - 1)))]) hl0 (Nat.le_of_ble_eq_true rfl)) (by rw [List.length_set]; exact hl0) (Nat.le_of_ble_eq_true rfl) trSelf)) ?_
              refine effDone closedSt (hLeft [] (by kernel_rfl) .n) (by kernel_rfl) ?_
              exact kMeetX ((setP p k (nar1 (p.st.getD k star0)), (rowSet 9 (rowSet 9 g0 k 6 [i64 (max (p.st.getD k star0).e.1 (IntKind.i64.wrap ((p.st.getD k star0).e.2 - 1)))]) k 7 [i64 (min (p.st.getD k star0).n.2 (IntKind.i64.wrap ((p.st.getD k star0).n.1 + 1)))]))) (⟨by dsimp only; have h1 := hg0.rowSet (k := k) (o := 6) (vs := [i64 (max (p.st.getD k star0).e.1 (IntKind.i64.wrap ((p.st.getD k star0).e.2 - 1)))]) hl0 (Nat.le_of_ble_eq_true rfl); have h2 := h1.rowSet (k := k) (o := 7) (vs := [i64 (min (p.st.getD k star0).n.2 (IntKind.i64.wrap ((p.st.getD k star0).n.1 + 1)))]) (by rw [List.length_set]; exact hl0) (Nat.le_of_ble_eq_true rfl); rw [rows2 hkl] at h2; unfold setP; rw [List.map_set]; exact h2, by rw [rowSet_A, rowSet_A], List.length_set, nar1_fine hp hkl⟩) rfl .n (.c rfl (.c rfl (.c rfl (.c rfl (.c rfl (.c rfl (.c rfl (.c rfl (.c rfl (.c rfl .n)))))))))) (.c 0 rfl (.c 0 rfl (.c 0 rfl (.c 0 rfl (.c 0 rfl .r)))))
            · refine kIfF rfl ?_
              refine kRegion rfl ?_
              refine lV (yFieldAddr rfl F26_0) rfl rfl ?_
              refine lV (yFieldAddr rfl F23_1) rfl rfl ?_
              refine lV (yLoad1 rfl O3 (cOwn 4 rfl rfl)) rfl rfl ?_
              refine lV (yFieldAddr rfl F26_0) rfl rfl ?_
              refine lV (yFieldAddr rfl F23_0) rfl rfl ?_
              refine lV (yLoad1 rfl O3 (cOwn 4 rfl rfl)) rfl rfl ?_
              refine lV (yAdd rfl rfl (by omega)) rfl rfl ?_
              refine lV (yMin rfl rfl) rfl rfl ?_
              refine lV (yFieldAddr rfl F26_0) rfl rfl ?_
              refine lV (yFieldAddr rfl F23_0) rfl rfl ?_
              refine lE rfl ?_
              refine eStoreL 4 rfl rfl rfl rfl K3 rfl (rfl) ?_
              refine lNil ?_
              exact kMeetX ((narS p, g0)) (⟨hg0, rfl, rfl, narS_fine hp⟩) rfl .n (.c rfl (.c rfl (.c rfl (.c rfl (.c rfl (.c rfl (.c rfl (.c rfl (.c rfl (.c rfl .n)))))))))) (.c 0 rfl (.c 0 rfl (.c 0 rfl (.c 0 rfl (.c 0 rfl .r)))))
        · obtain ⟨Y, g2⟩ := u
          obtain ⟨hg2, hA, hyl, hyf⟩ := hu
          dsimp only at hg2 hA hyl hyf ⊢
          obtain ⟨B, hB⟩ : ∃ B : Heap, G ++ osL 58 g2 = B := ⟨_, rfl⟩
          rw [hB, show Value.slice (osA g0) p.st.length (osC g0) = Value.slice (osA g0) Y.st.length (osC g0) by rw [hyl]]
          have hX : ∀ w', Eff w [] B w' → InP w' yx X := fun w' hw' => hxi w' (hw'.sub (hB ▸ SubP.leftA _ _))
          have hY : ∀ w', Eff w [] B w' → InP w' (osA g0, osC g0) Y := fun w' hw' => by
            have h1 := OS.rowsE (f := rowS) star0 hg2 hw' (hB ▸ SubP.tail)
            rw [hA] at h1
            exact h1
          refine kInN ?_
          refine kThen ?_
          refine kSeq ?_
          refine kRegion rfl ?_
          refine lV (yAssign rfl) rfl rfl ?_
          refine lNil ?_
          refine kThen ?_
          refine kSeq ?_
          refine kRegion rfl ?_
          refine lV (yLoadA (vs := [_, _, _]) rfl A26 (cOwn 2 rfl rfl)) rfl rfl ?_
          refine lV (yCall rfl (.c rfl .n) C15 (fun w hw => scale_any y p w (hm.eff0 hw))) rfl rfl ?_
          refine lV (yMove rfl) rfl rfl ?_
          refine lV (yExtract rfl rfl) rfl rfl ?_
          refine lV (yExtract rfl rfl) rfl rfl ?_
          refine lE rfl ?_
          refine eAlloc Z23 fun n18 => ?_
          refine lE rfl ?_
          refine eStoreL 0 rfl rfl rfl rfl K23 rfl (rfl) ?_
          refine lV (yAssign rfl) rfl rfl ?_
          refine lNil ?_
          refine kThen ?_
          refine kSeq ?_
          refine kRegion rfl ?_
          refine lV (yLoadA (vs := [_, _, _]) rfl A26 (cOwn 3 rfl rfl)) rfl rfl ?_
          refine lV (yCall rfl (.c rfl .n) C17 (fun w hw => zero_any y p w (hm.eff0 hw))) rfl rfl ?_
          refine lV (yMove rfl) rfl rfl ?_
          refine lV (yExtract rfl rfl) rfl rfl ?_
          refine lV (yExtract rfl rfl) rfl rfl ?_
          refine lV (yExtract rfl rfl) rfl rfl ?_
          refine lE rfl ?_
          refine eAlloc Z23 fun n20 => ?_
          refine lE rfl ?_
          refine eAlloc Z23 fun n21 => ?_
          refine lE rfl ?_
          refine eStoreL 1 rfl rfl rfl rfl K23 rfl (rfl) ?_
          refine lE rfl ?_
          refine eStoreL 0 rfl rfl rfl rfl K23 rfl (rfl) ?_
          refine lV (yAssign rfl) rfl rfl ?_
          refine lNil ?_
          refine kThen ?_
          refine kSeq ?_
          refine kRegion rfl ?_
          refine lV (yLoadA (vs := [_, _, _]) rfl A26 (cOwn 5 rfl rfl)) rfl rfl ?_
          refine lV (yMove rfl) rfl rfl ?_
          refine lV (yCall rfl (.c rfl (.c rfl .n)) C19 (fun w hw => star_any y p a w (hm.eff0 hw) hL6)) rfl rfl ?_
          refine lV (yMove rfl) rfl rfl ?_
          refine lV (yExtract rfl rfl) rfl rfl ?_
          refine lV (yExtract rfl rfl) rfl rfl ?_
          refine lV (yExtract rfl rfl) rfl rfl ?_
          refine lE rfl ?_
          refine eAlloc Z23 fun n23 => ?_
          refine lE rfl ?_
          refine eAlloc Z23 fun n24 => ?_
          refine lE rfl ?_
          refine eStoreL 1 rfl rfl rfl rfl K23 rfl (rfl) ?_
          refine lE rfl ?_
          refine eStoreL 0 rfl rfl rfl rfl K23 rfl (rfl) ?_
          refine lV (yAssign rfl) rfl rfl ?_
          refine lNil ?_
          refine kThen ?_
          refine kSeq ?_
          refine kRegion rfl ?_
          refine lV (yLoadA (vs := [_, _, _]) rfl A26 (cOwn 7 rfl rfl)) rfl rfl ?_
          refine lV (yMove rfl) rfl rfl ?_
          refine lV (yMove rfl) rfl rfl ?_
          refine lV (yCall rfl (.c rfl (.c rfl (.c rfl .n))) C21 (fun w hw => apart_any y p a b w (hm.eff0 hw) hL6)) rfl rfl ?_
          refine lV (yMove rfl) rfl rfl ?_
          refine lV (yExtract rfl rfl) rfl rfl ?_
          refine lV (yExtract rfl rfl) rfl rfl ?_
          refine lV (yExtract rfl rfl) rfl rfl ?_
          refine lE rfl ?_
          refine eAlloc Z23 fun n26 => ?_
          refine lE rfl ?_
          refine eAlloc Z23 fun n27 => ?_
          refine lE rfl ?_
          refine eStoreL 1 rfl rfl rfl rfl K23 rfl (rfl) ?_
          refine lE rfl ?_
          refine eStoreL 0 rfl rfl rfl rfl K23 rfl (rfl) ?_
          refine lV (yAssign rfl) rfl rfl ?_
          refine lNil ?_
          refine kThen ?_
          refine kSeq ?_
          refine kRegion rfl ?_
          refine lV (yLoadA (vs := [_, _, _]) rfl A26 (cOwn 9 rfl rfl)) rfl rfl ?_
          refine lV (yCall rfl (.c rfl .n) C28 (fun w hw => drop_any y p w (hm.eff0 hw))) rfl rfl ?_
          refine same (t := 197) (u := .tuple [i64 (dn : Nat), i64 0].toArray) rfl (by rw [ed]) ?_
          refine lV (yMove rfl) rfl rfl ?_
          refine lV (yExtract rfl rfl) rfl rfl ?_
          refine lV (yExtract rfl rfl) rfl rfl ?_
          refine lV (yAssign rfl) rfl rfl ?_
          refine lV (yAssign rfl) rfl rfl ?_
          refine lNil ?_
          refine kThen ?_
          refine kSeq ?_
          refine kSeq ?_
          refine kRegion rfl ?_
          refine lV (yMove rfl) rfl rfl ?_
          refine lV (yNeq rfl rfl) rfl rfl ?_
          refine knownB (t := 201) (c := false) rfl (by simp) ?_
          refine lV (yMove rfl) rfl rfl ?_
          refine lGY rfl rfl rfl (oV (yMove rfl) rfl ?_)
          refine lGY rfl rfl rfl (oV (yLss rfl rfl) rfl ?_)
          refine knownN (t := 204) rfl (by omega) ?_
          refine lV (yPickF rfl rfl) rfl rfl ?_
          refine lNil ?_
          refine kThen ?_
          refine kIfF rfl ?_
          refine kSkip ?_
          refine kThen ?_
          refine kSeq ?_
          refine kSeq ?_
          refine weak [(1, _), (2, _), (12, _), (14, _), (15, _), (17, _), (18, _), (19, _), (20, _), (21, _), (22, _), (23, _), (24, _), (25, _), (26, _), (27, _), (28, _), (29, _), (30, _)] (.c rfl (.c rfl (.c rfl (.c rfl (.c rfl (.c rfl (.c rfl (.c rfl (.c rfl (.c rfl (.c rfl (.c rfl (.c rfl (.c rfl (.c rfl (.c rfl (.c rfl (.c rfl (.c rfl .n))))))))))))))))))) ?_
          refine kRegion rfl ?_
          refine lV (yLoadA (vs := [_, _, _]) rfl A26 (cOwn 10 rfl rfl)) rfl rfl ?_
          refine lV (yLoadA (vs := [_, _, _]) rfl A26 (cOwn 11 rfl rfl)) rfl rfl ?_
          refine lE rfl ?_
          refine eBuildSlice (.c rfl (.c rfl .n)) (fun w => BS65_2_0_1 w) fun n208 => ?_
          refine lV (yLen rfl S65) rfl rfl ?_
          refine lV (yMove rfl) rfl rfl ?_
          refine lNil ?_
          refine kThen ?_
          refine kBlock ?_
          refine kLoopX (ι := Nat) (fun i => i ≤ 2) (fun i => [(210, i64 (i : Nat))]) [(1, _), (2, _), (14, _), (15, _), (17, _), (18, _), (19, _), (20, _), (21, _), (22, _), (23, _), (24, _), (25, _), (26, _), (27, _), (28, _), (29, _), (30, _), (206, _), (207, _), (208, _), (209, _)] (fun i => []) (fun i => B) [(n208, _), (n27, _), (n26, _), (n24, _), (n23, _), (n21, _), (n20, _), (n18, _), (n14, _), (n15, _)] (fun i => 2 - i) 0 (Nat.zero_le _) rfl (.c rfl .n) (.c rfl (.c rfl (.c rfl (.c rfl (.c rfl (.c rfl (.c rfl (.c rfl (.c rfl (.c rfl (.c rfl (.c rfl (.c rfl (.c rfl (.c rfl (.c rfl (.c rfl (.c rfl (.c rfl (.c rfl (.c rfl (.c rfl .n)))))))))))))))))))))) (.c 0 rfl (.c 0 rfl (.c 0 rfl (.c 0 rfl (.c 0 rfl (.c 0 rfl (.c 0 rfl (.c 0 rfl (.c 3 rfl (.c 3 rfl (.d 0 (.d 0 (.d 0 .r))))))))))))) ?_
          rintro i hi
          refine kSeq ?_
          refine kRegion rfl ?_
          refine lV (yLss rfl rfl) rfl rfl ?_
          refine lNil ?_
          refine kThen ?_
          refine kSeq ?_
          refine split (t := 211) rfl (fun h211 => ?_) (fun h211 => ?_)
          · refine kIfT rfl ?_
            refine kSkip ?_
            refine kThen ?_
            refine kSeq ?_
            refine kBlock ?_
            refine kSeq ?_
            have hi1 : i + 1 ≤ 2 := by omega
            have hi2 : 2 - (i + 1) < 2 - i := by omega
            have hi3 : -9223372036854775808 ≤ (i : Int) + 1 ∧ (i : Int) + 1 ≤ 9223372036854775807 := by omega
            refine kRegion rfl ?_
            refine lV (yIndexS  rfl rfl S65 ((fun w hw => sleRows (f := fun z : (Option Addr × Nat) × Plt => pltC z.1 z.2) (fun _ => rfl) ((none, 0), ⟨(0, 0), []⟩) [(yx, X), ((osA g0, osC g0), Y)] rfl (hw.blkAt 0 rfl))) ((by show i < 2; omega))) rfl rfl ?_
            refine lV (yLoadA (vs := [_, _, _]) rfl A26 (cSl0 ((fun w hw => sleRows (f := fun z : (Option Addr × Nat) × Plt => pltC z.1 z.2) (fun _ => rfl) ((none, 0), ⟨(0, 0), []⟩) [(yx, X), ((osA g0, osC g0), Y)] rfl (hw.blkAt 0 rfl))) ((by show i < 2; omega)) rfl)) rfl rfl ?_
            refine lE rfl ?_
            refine eAlloc Z26 fun n32 => ?_
            refine lE rfl ?_
            refine eStoreL 0 rfl rfl rfl rfl K26 rfl (rfl) ?_
            refine lNil ?_
            refine kThen ?_
            refine kSeq ?_
            refine kSeq ?_
            obtain ⟨zl, hzl⟩ : ∃ z : (Option Addr × Nat) × Plt, z = [(yx, X), ((osA g0, osC g0), Y)].getD i ((none, 0), ⟨(0, 0), []⟩) := ⟨_, rfl⟩
            rw [← hzl]
            obtain ⟨hz, hzlen, hzf⟩ : (∀ w', Eff w [] B w' → InP w' zl.1 zl.2) ∧ zl.2.st.length = p.st.length ∧ Finer zl.2 p := by
              match i, (show i < 2 by omega) with
              | 0, _ => rw [hzl]; exact ⟨hX, hxl, hxf⟩
              | 1, _ => rw [hzl]; exact ⟨hY, hyl, hyf⟩
            have hz6 : zl.2.st.length ≤ 1000000 := by omega
            refine kRegion rfl ?_
            refine lV (yLoadA (vs := [_, _, _]) rfl A26 (cOwn 0 rfl rfl)) rfl rfl ?_
            refine lV (yCall rfl (.c rfl .n) C23 (fun w hw => rplate_any zl.1 zl.2 w (hz w (hw.sub (.d 0 (.d 0 (.d 0 (.d 0 (.d 0 (.d 0 (.d 0 (.d 0 (.d 0 (.d 0 (.d 0 .r))))))))))))) (by omega))) rfl rfl ?_
            refine lV (yNot rfl) rfl rfl ?_
            refine splitB (t := 216) rfl (fun h216 => ?_) (fun h216 => ?_)
            · refine lNil ?_
              refine kThen ?_
              refine kIfT rfl ?_
              refine kExit ?_
              refine kThenX ?_
              refine kInX ?_
              refine kThen ?_
              refine kRegion rfl ?_
              refine lV (yArith rfl rfl ((.inl ⟨rfl, IntWalk.i64_in _ hi3⟩))) rfl rfl ?_
              refine lV (yMove rfl) rfl rfl ?_
              refine lNil ?_
              exact kRoundX (i + 1) (hi1) (hi2) rfl (.c rfl .n) (.c rfl (.c rfl (.c rfl (.c rfl (.c rfl (.c rfl (.c rfl (.c rfl (.c rfl (.c rfl (.c rfl (.c rfl (.c rfl (.c rfl (.c rfl (.c rfl (.c rfl (.c rfl (.c rfl (.c rfl (.c rfl (.c rfl .n)))))))))))))))))))))) (.c 1 rfl (.c 1 rfl (.c 1 rfl (.c 1 rfl (.c 1 rfl (.c 1 rfl (.c 1 rfl (.c 1 rfl (.c 1 rfl (.c 1 rfl (.d 0 .r)))))))))))
            · refine lNil ?_
              refine kThen ?_
              refine kIfF rfl ?_
              refine kSkip ?_
              refine kThen ?_
              refine kSeq ?_
              have hzp : PltOk zl.2 := by simpa using h216
              obtain ⟨d1, d2, ed1, ed2, hpop, hd1, hd2⟩ := fine_drop hzp hp hzf
              obtain rfl : d1 = dn := by rw [ed] at ed1; have := (Prod.mk.inj ed1).1; omega
              refine kRegion rfl ?_
              refine lV (yLoadA (vs := [_, _, _]) rfl A26 (cOwn 0 rfl rfl)) rfl rfl ?_
              refine lV (yCall rfl (.c rfl .n) C28 (fun w hw => drop_any zl.1 zl.2 w (hz w (hw.sub (.d 0 (.d 0 (.d 0 (.d 0 (.d 0 (.d 0 (.d 0 (.d 0 (.d 0 (.d 0 (.d 0 .r))))))))))))))) rfl rfl ?_
              refine same (t := 219) (u := .tuple [i64 (d2 : Nat), i64 0].toArray) rfl (by rw [ed2]) ?_
              refine lV (yMove rfl) rfl rfl ?_
              refine lV (yExtract rfl rfl) rfl rfl ?_
              refine lV (yExtract rfl rfl) rfl rfl ?_
              refine lV (yAssign rfl) rfl rfl ?_
              refine lV (yAssign rfl) rfl rfl ?_
              refine lNil ?_
              refine kThen ?_
              refine kSeq ?_
              refine kSeq ?_
              refine kRegion rfl ?_
              refine lV (yMove rfl) rfl rfl ?_
              refine lV (yNeq rfl rfl) rfl rfl ?_
              refine knownB (t := 223) (c := false) rfl (by simp) ?_
              refine lV (yMove rfl) rfl rfl ?_
              refine lGY rfl rfl rfl (oV (yMove rfl) rfl ?_)
              refine lGY rfl rfl rfl (oV (yLss rfl rfl) rfl ?_)
              refine knownN (t := 226) rfl (by omega) ?_
              refine lV (yPickF rfl rfl) rfl rfl ?_
              refine lV (yMove rfl) rfl rfl ?_
              refine lGY rfl rfl rfl (oV (yMove rfl) rfl ?_)
              refine lGY rfl rfl rfl (oV (yCall rfl (.c rfl .n) C43 (fun w hw => size_any d2 w (by omega))) rfl ?_)
              refine lGY rfl rfl rfl (oV (yMove rfl) rfl ?_)
              refine lGY rfl rfl rfl (oV (yCall rfl (.c rfl .n) C43 (fun w hw => size_any d1 w (by omega))) rfl ?_)
              refine lGY rfl rfl rfl (oV (yLss rfl rfl) rfl ?_)
              refine knownN (t := 233) rfl (by omega) ?_
              refine lV (yPickF rfl rfl) rfl rfl ?_
              refine lNil ?_
              refine kThen ?_
              refine kIfF rfl ?_
              refine kSkip ?_
              refine kThen ?_
              refine kSeq ?_
              have fs := fine_scale hzp hp hzf
              refine kRegion rfl ?_
              refine lV (yLoadA (vs := [_, _, _]) rfl A26 (cOwn 0 rfl rfl)) rfl rfl ?_
              refine lV (yCall rfl (.c rfl .n) C15 (fun w hw => scale_any zl.1 zl.2 w (hz w (hw.sub (.d 0 (.d 0 (.d 0 (.d 0 (.d 0 (.d 0 (.d 0 (.d 0 (.d 0 (.d 0 (.d 0 .r))))))))))))))) rfl rfl ?_
              refine lV (yMove rfl) rfl rfl ?_
              refine lV (yExtract rfl rfl) rfl rfl ?_
              refine lV (yExtract rfl rfl) rfl rfl ?_
              refine lE rfl ?_
              refine eAlloc Z23 fun n35 => ?_
              refine lE rfl ?_
              refine eStoreL 0 rfl rfl rfl rfl K23 rfl (rfl) ?_
              refine lV (yAssign rfl) rfl rfl ?_
              refine lNil ?_
              refine kThen ?_
              refine kSeq ?_
              refine kSeq ?_
              refine kRegion rfl ?_
              refine lV (yMove rfl) rfl rfl ?_
              refine lV (yNeq rfl rfl) rfl rfl ?_
              refine split (t := 241) rfl (fun h241 => ?_) (fun h241 => ?_)
              · refine lNil ?_
                refine kThen ?_
                refine kIfT rfl ?_
                refine kSeq ?_
                refine kSeq ?_
                refine kRegion rfl ?_
                refine lV (yMove rfl) rfl rfl ?_
                refine lV (yNeq rfl rfl) rfl rfl ?_
                refine knownN (t := 243) rfl (fun h => h (fs.1 h241)) ?_
                refine lNil ?_
                refine kThen ?_
                refine kIfF rfl ?_
                refine kSkip ?_
                refine kThen ?_
                refine kExit ?_
                refine kThenX ?_
                refine kInX ?_
                refine kThen ?_
                refine kRegion rfl ?_
                refine lV (yArith rfl rfl ((.inl ⟨rfl, IntWalk.i64_in _ hi3⟩))) rfl rfl ?_
                refine lV (yMove rfl) rfl rfl ?_
                refine lNil ?_
                exact kRoundX (i + 1) (hi1) (hi2) rfl (.c rfl .n) (.c rfl (.c rfl (.c rfl (.c rfl (.c rfl (.c rfl (.c rfl (.c rfl (.c rfl (.c rfl (.c rfl (.c rfl (.c rfl (.c rfl (.c rfl (.c rfl (.c rfl (.c rfl (.c rfl (.c rfl (.c rfl (.c rfl .n)))))))))))))))))))))) (.c 2 rfl (.c 2 rfl (.c 2 rfl (.c 2 rfl (.c 2 rfl (.c 2 rfl (.c 2 rfl (.c 2 rfl (.c 2 rfl (.c 2 rfl (.d 0 (.d 0 .r))))))))))))
              · refine lNil ?_
                refine kThen ?_
                refine kIfF rfl ?_
                refine kSkip ?_
                refine kThen ?_
                refine kSeq ?_
                refine kSeq ?_
                obtain ⟨hzs, hps, hs0, hin⟩ := fs.2 (Decidable.not_not.1 h241)
                refine kRegion rfl ?_
                refine lV (yMove rfl) rfl rfl ?_
                refine lV (yNeq rfl rfl) rfl rfl ?_
                refine knownN (t := 245) rfl (fun h => h hs0) ?_
                refine lV (yMove rfl) rfl rfl ?_
                refine lGY rfl rfl rfl (oV (yMove rfl) rfl ?_)
                refine lGY rfl rfl rfl (oV (yLoadA (vs := [_, _]) rfl A23 (cOwn 0 rfl rfl)) rfl ?_)
                refine lGY rfl rfl rfl (oV (yLoadA (vs := [_, _]) rfl A23 (cOwn 9 rfl rfl)) rfl ?_)
                refine lGY rfl rfl rfl (oV (yCall rfl (.c rfl (.c rfl .n)) C44 (fun w hw => in_any (scaleE zl.2).1 (scaleE p).1 true w ⟨fun _ => hin, fun _ => rfl⟩)) rfl ?_)
                refine lGY rfl rfl rfl (oV (yNot rfl) rfl ?_)
                refine lV (yPickF rfl rfl) rfl rfl ?_
                refine lNil ?_
                refine kThen ?_
                refine kIfF rfl ?_
                refine kSkip ?_
                refine kThen ?_
                refine kSeq ?_
                refine weak [(1, _), (2, _), (14, _), (15, _), (17, _), (18, _), (19, _), (20, _), (21, _), (22, _), (23, _), (24, _), (25, _), (26, _), (27, _), (28, _), (29, _), (30, _), (32, _), (206, _), (207, _), (208, _), (209, _), (210, _)] (.c rfl (.c rfl (.c rfl (.c rfl (.c rfl (.c rfl (.c rfl (.c rfl (.c rfl (.c rfl (.c rfl (.c rfl (.c rfl (.c rfl (.c rfl (.c rfl (.c rfl (.c rfl (.c rfl (.c rfl (.c rfl (.c rfl (.c rfl (.c rfl .n)))))))))))))))))))))))) ?_
                refine kRegion rfl ?_
                refine lV (yLoadA (vs := [_, _, _]) rfl A26 (cOwn 1 rfl rfl)) rfl rfl ?_
                refine lV (yCall rfl (.c rfl .n) C17 (fun w hw => zero_any zl.1 zl.2 w (hz w (hw.sub (.d 0 (.d 0 (.d 0 (.d 0 (.d 0 (.d 0 (.d 0 (.d 0 (.d 0 (.d 0 (.d 0 (.d 0 .r)))))))))))))))) rfl rfl ?_
                refine lV (yMove rfl) rfl rfl ?_
                refine lV (yExtract rfl rfl) rfl rfl ?_
                refine lV (yExtract rfl rfl) rfl rfl ?_
                refine lV (yExtract rfl rfl) rfl rfl ?_
                refine lE rfl ?_
                refine eAlloc Z23 fun n37 => ?_
                refine lE rfl ?_
                refine eAlloc Z23 fun n38 => ?_
                refine lE rfl ?_
                refine eStoreL 1 rfl rfl rfl rfl K23 rfl (rfl) ?_
                refine lE rfl ?_
                refine eStoreL 0 rfl rfl rfl rfl K23 rfl (rfl) ?_
                refine lV (yAssign rfl) rfl rfl ?_
                refine lNil ?_
                refine kThen ?_
                refine kSeq ?_
                refine kSeq ?_
                refine forgetP ([(n38, _), (n37, _), (n35, _), (n32, _), (n208, _), (n27, _), (n26, _), (n24, _), (n23, _), (n21, _), (n20, _), (n18, _), (n14, _), (n15, _)] ++ B) (.c 0 rfl (.c 0 rfl (.c 0 rfl (.c 0 rfl (.c 0 rfl (.c 0 rfl (.c 0 rfl (.c 0 rfl (.c 0 rfl (.c 0 rfl (.c 0 rfl (.c 0 rfl (.c 0 rfl (.c 0 rfl (by exact SubP.r))))))))))))))) ?_
                refine kCutX (ι := Unit) (fun _ => True) (fun _ => [(278, .bool false)]) [(1, _), (2, _), (14, _), (15, _), (17, _), (18, _), (19, _), (20, _), (21, _), (22, _), (23, _), (24, _), (25, _), (26, _), (27, _), (28, _), (29, _), (30, _), (32, _), (206, _), (207, _), (208, _), (209, _), (210, _), (254, _), (255, _), (253, _), (256, _), (257, _), (258, _), (37, _), (38, _), (39, _)] (fun _ => []) (fun _ => B) [(n38, _), (n37, _), (n35, _), (n32, _), (n208, _), (n27, _), (n26, _), (n24, _), (n23, _), (n21, _), (n20, _), (n18, _), (n14, _), (n15, _)] (.c rfl (.c rfl (.c rfl (.c rfl (.c rfl (.c rfl (.c rfl (.c rfl (.c rfl (.c rfl (.c rfl (.c rfl (.c rfl (.c rfl (.c rfl (.c rfl (.c rfl (.c rfl (.c rfl (.c rfl (.c rfl (.c rfl (.c rfl (.c rfl (.c rfl (.c rfl (.c rfl (.c rfl (.c rfl (.c rfl (.c rfl (.c rfl (.c rfl .n))))))))))))))))))))))))))))))))) (.c 0 rfl (.c 0 rfl (.c 0 rfl (.c 0 rfl (.c 0 rfl (.c 0 rfl (.c 0 rfl (.c 0 rfl (.c 0 rfl (.c 0 rfl (.c 0 rfl (.c 0 rfl (.c 0 rfl (.c 0 rfl .n)))))))))))))) ?_ (fun u37 _ => ?_)
                · by_cases h260 : (zeroE p).2.2 = 0
                  · have fz := fine_zero hzp hzf hzs h260
                    refine kRegion rfl ?_
                    refine lV (yMove rfl) rfl rfl ?_
                    refine lV (yEql rfl rfl) rfl rfl ?_
                    refine known (t := 260) rfl (h260) ?_
                    refine lV (yMove rfl) rfl rfl ?_
                    refine lGY rfl rfl rfl (oV (yMove rfl) rfl ?_)
                    refine lGY rfl rfl rfl (oV (yNeq rfl rfl) rfl ?_)
                    refine knownN (t := 263) rfl (fun h => h fz.1) ?_
                    refine lGY rfl rfl rfl (oV (yMove rfl) rfl ?_)
                    refine lGY rfl rfl rfl (oV (yMove rfl) rfl ?_)
                    refine lGY rfl rfl rfl (oV (yLoadA (vs := [_, _]) rfl A23 (cOwn 1 rfl rfl)) rfl ?_)
                    refine lGY rfl rfl rfl (oV (yLoadA (vs := [_, _]) rfl A23 (cOwn 10 rfl rfl)) rfl ?_)
                    refine lGY rfl rfl rfl (oV (yCall rfl (.c rfl (.c rfl .n)) C44 (fun w hw => in_any (zeroE zl.2).1 (zeroE p).1 true w ⟨fun _ => fz.2.1, fun _ => rfl⟩)) rfl ?_)
                    refine lGY rfl rfl rfl (oV (yNot rfl) rfl ?_)
                    refine lGY rfl rfl rfl (oV (yPickF rfl rfl) rfl ?_)
                    refine lGY rfl rfl rfl (oV (yMove rfl) rfl ?_)
                    refine lGY rfl rfl rfl (oV (yMove rfl) rfl ?_)
                    refine lGY rfl rfl rfl (oV (yLoadA (vs := [_, _]) rfl A23 (cOwn 0 rfl rfl)) rfl ?_)
                    refine lGY rfl rfl rfl (oV (yLoadA (vs := [_, _]) rfl A23 (cOwn 9 rfl rfl)) rfl ?_)
                    refine lGY rfl rfl rfl (oV (yCall rfl (.c rfl (.c rfl .n)) C44 (fun w hw => in_any (zeroE zl.2).2.1 (zeroE p).2.1 true w ⟨fun _ => fz.2.2, fun _ => rfl⟩)) rfl ?_)
                    refine lGY rfl rfl rfl (oV (yNot rfl) rfl ?_)
                    refine lGY rfl rfl rfl (oV (yPickF rfl rfl) rfl ?_)
                    refine lV (yPickT rfl rfl) rfl rfl ?_
                    refine lNil ?_
                    exact kMeetX (()) (by simp) rfl (.c rfl .n) (.c rfl (.c rfl (.c rfl (.c rfl (.c rfl (.c rfl (.c rfl (.c rfl (.c rfl (.c rfl (.c rfl (.c rfl (.c rfl (.c rfl (.c rfl (.c rfl (.c rfl (.c rfl (.c rfl (.c rfl (.c rfl (.c rfl (.c rfl (.c rfl (.c rfl (.c rfl (.c rfl (.c rfl (.c rfl (.c rfl (.c rfl (.c rfl (.c rfl .n))))))))))))))))))))))))))))))))) (.c 0 rfl (.c 0 rfl (.c 0 rfl (.c 0 rfl (.c 0 rfl (.c 0 rfl (.c 0 rfl (.c 0 rfl (.c 0 rfl (.c 0 rfl (.c 0 rfl (.c 0 rfl (.c 0 rfl (.c 0 rfl .r))))))))))))))
                  · refine kRegion rfl ?_
                    refine lV (yMove rfl) rfl rfl ?_
                    refine lV (yEql rfl rfl) rfl rfl ?_
                    refine knownN (t := 260) rfl (h260) ?_
                    refine lV (yMove rfl) rfl rfl ?_
                    refine lGN rfl rfl rfl rfl rfl ?_
                    refine lGN rfl rfl rfl rfl rfl ?_
                    refine lGN rfl rfl rfl rfl rfl ?_
                    refine lGU rfl rfl rfl rfl ?_
                    refine lGU rfl rfl rfl rfl ?_
                    refine lGU rfl rfl rfl rfl ?_
                    refine lGU rfl rfl rfl rfl ?_
                    refine lGU rfl rfl rfl rfl ?_
                    refine lGN rfl rfl rfl rfl rfl ?_
                    refine lGN rfl rfl rfl rfl rfl ?_
                    refine lGU rfl rfl rfl rfl ?_
                    refine lGU rfl rfl rfl rfl ?_
                    refine lGU rfl rfl rfl rfl ?_
                    refine lGU rfl rfl rfl rfl ?_
                    refine lGU rfl rfl rfl rfl ?_
                    refine lGN rfl rfl rfl rfl rfl ?_
                    refine lV (yPickF rfl rfl) rfl rfl ?_
                    refine lNil ?_
                    exact kMeetX (()) (by simp) rfl (.c rfl .n) (.c rfl (.c rfl (.c rfl (.c rfl (.c rfl (.c rfl (.c rfl (.c rfl (.c rfl (.c rfl (.c rfl (.c rfl (.c rfl (.c rfl (.c rfl (.c rfl (.c rfl (.c rfl (.c rfl (.c rfl (.c rfl (.c rfl (.c rfl (.c rfl (.c rfl (.c rfl (.c rfl (.c rfl (.c rfl (.c rfl (.c rfl (.c rfl (.c rfl .n))))))))))))))))))))))))))))))))) (.c 0 rfl (.c 0 rfl (.c 0 rfl (.c 0 rfl (.c 0 rfl (.c 0 rfl (.c 0 rfl (.c 0 rfl (.c 0 rfl (.c 0 rfl (.c 0 rfl (.c 0 rfl (.c 0 rfl (.c 0 rfl .r))))))))))))))
                · refine kIfF rfl ?_
                  refine kSkip ?_
                  refine kThen ?_
                  refine kSeq ?_
                  refine weak [(1, _), (2, _), (14, _), (15, _), (17, _), (18, _), (19, _), (20, _), (21, _), (22, _), (23, _), (24, _), (25, _), (26, _), (27, _), (28, _), (29, _), (30, _), (32, _), (37, _), (38, _), (39, _), (206, _), (207, _), (208, _), (209, _), (210, _)] (.c rfl (.c rfl (.c rfl (.c rfl (.c rfl (.c rfl (.c rfl (.c rfl (.c rfl (.c rfl (.c rfl (.c rfl (.c rfl (.c rfl (.c rfl (.c rfl (.c rfl (.c rfl (.c rfl (.c rfl (.c rfl (.c rfl (.c rfl (.c rfl (.c rfl (.c rfl (.c rfl .n))))))))))))))))))))))))))) ?_
                  refine kRegion rfl ?_
                  refine lV (yLoadA (vs := [_, _, _]) rfl A26 (cOwn 3 rfl rfl)) rfl rfl ?_
                  refine lV (yMove rfl) rfl rfl ?_
                  refine lV (yCall rfl (.c rfl (.c rfl .n)) C19 (fun w hw => star_any zl.1 zl.2 a w (hz w (hw.sub (.d 0 (.d 0 (.d 0 (.d 0 (.d 0 (.d 0 (.d 0 (.d 0 (.d 0 (.d 0 (.d 0 (.d 0 (.d 0 (.d 0 .r)))))))))))))))) hz6)) rfl rfl ?_
                  refine lV (yMove rfl) rfl rfl ?_
                  refine lV (yExtract rfl rfl) rfl rfl ?_
                  refine lV (yExtract rfl rfl) rfl rfl ?_
                  refine lV (yExtract rfl rfl) rfl rfl ?_
                  refine lE rfl ?_
                  refine eStoreL 1 rfl rfl rfl rfl K23 rfl (rfl) ?_
                  refine lE rfl ?_
                  refine eStoreL 0 rfl rfl rfl rfl K23 rfl (rfl) ?_
                  refine lV (yAssign rfl) rfl rfl ?_
                  refine lNil ?_
                  refine kThen ?_
                  refine kSeq ?_
                  refine kSeq ?_
                  refine forgetP ([(n38, _), (n37, _), (n35, _), (n32, _), (n208, _), (n27, _), (n26, _), (n24, _), (n23, _), (n21, _), (n20, _), (n18, _), (n14, _), (n15, _)] ++ B) (.c 0 rfl (.c 0 rfl (.c 0 rfl (.c 0 rfl (.c 0 rfl (.c 0 rfl (.c 0 rfl (.c 0 rfl (.c 0 rfl (.c 0 rfl (.c 0 rfl (.c 0 rfl (.c 0 rfl (.c 0 rfl (by exact SubP.r))))))))))))))) ?_
                  refine kCutX (ι := Unit) (fun _ => True) (fun _ => [(305, .bool false)]) [(1, _), (2, _), (14, _), (15, _), (17, _), (18, _), (19, _), (20, _), (21, _), (22, _), (23, _), (24, _), (25, _), (26, _), (27, _), (28, _), (29, _), (30, _), (32, _), (37, _), (38, _), (39, _), (206, _), (207, _), (208, _), (209, _), (210, _), (280, _), (281, _), (282, _), (279, _), (283, _), (284, _), (285, _)] (fun _ => []) (fun _ => B) [(n38, _), (n37, _), (n35, _), (n32, _), (n208, _), (n27, _), (n26, _), (n24, _), (n23, _), (n21, _), (n20, _), (n18, _), (n14, _), (n15, _)] (.c rfl (.c rfl (.c rfl (.c rfl (.c rfl (.c rfl (.c rfl (.c rfl (.c rfl (.c rfl (.c rfl (.c rfl (.c rfl (.c rfl (.c rfl (.c rfl (.c rfl (.c rfl (.c rfl (.c rfl (.c rfl (.c rfl (.c rfl (.c rfl (.c rfl (.c rfl (.c rfl (.c rfl (.c rfl (.c rfl (.c rfl (.c rfl (.c rfl (.c rfl .n)))))))))))))))))))))))))))))))))) (.c 0 rfl (.c 0 rfl (.c 0 rfl (.c 0 rfl (.c 0 rfl (.c 0 rfl (.c 0 rfl (.c 0 rfl (.c 0 rfl (.c 0 rfl (.c 0 rfl (.c 0 rfl (.c 0 rfl (.c 0 rfl .n)))))))))))))) ?_ (fun u40 _ => ?_)
                  · by_cases h287 : (starE p a).2.2 = 0
                    · have fz := fine_star hzp hp hzf hzs h287
                      refine kRegion rfl ?_
                      refine lV (yMove rfl) rfl rfl ?_
                      refine lV (yEql rfl rfl) rfl rfl ?_
                      refine known (t := 287) rfl (h287) ?_
                      refine lV (yMove rfl) rfl rfl ?_
                      refine lGY rfl rfl rfl (oV (yMove rfl) rfl ?_)
                      refine lGY rfl rfl rfl (oV (yNeq rfl rfl) rfl ?_)
                      refine knownN (t := 290) rfl (fun h => h fz.1) ?_
                      refine lGY rfl rfl rfl (oV (yMove rfl) rfl ?_)
                      refine lGY rfl rfl rfl (oV (yMove rfl) rfl ?_)
                      refine lGY rfl rfl rfl (oV (yLoadA (vs := [_, _]) rfl A23 (cOwn 1 rfl rfl)) rfl ?_)
                      refine lGY rfl rfl rfl (oV (yLoadA (vs := [_, _]) rfl A23 (cOwn 8 rfl rfl)) rfl ?_)
                      refine lGY rfl rfl rfl (oV (yCall rfl (.c rfl (.c rfl .n)) C44 (fun w hw => in_any (starE zl.2 a).1 (starE p a).1 true w ⟨fun _ => fz.2.1, fun _ => rfl⟩)) rfl ?_)
                      refine lGY rfl rfl rfl (oV (yNot rfl) rfl ?_)
                      refine lGY rfl rfl rfl (oV (yPickF rfl rfl) rfl ?_)
                      refine lGY rfl rfl rfl (oV (yMove rfl) rfl ?_)
                      refine lGY rfl rfl rfl (oV (yMove rfl) rfl ?_)
                      refine lGY rfl rfl rfl (oV (yLoadA (vs := [_, _]) rfl A23 (cOwn 0 rfl rfl)) rfl ?_)
                      refine lGY rfl rfl rfl (oV (yLoadA (vs := [_, _]) rfl A23 (cOwn 7 rfl rfl)) rfl ?_)
                      refine lGY rfl rfl rfl (oV (yCall rfl (.c rfl (.c rfl .n)) C44 (fun w hw => in_any (starE zl.2 a).2.1 (starE p a).2.1 true w ⟨fun _ => fz.2.2, fun _ => rfl⟩)) rfl ?_)
                      refine lGY rfl rfl rfl (oV (yNot rfl) rfl ?_)
                      refine lGY rfl rfl rfl (oV (yPickF rfl rfl) rfl ?_)
                      refine lV (yPickT rfl rfl) rfl rfl ?_
                      refine lNil ?_
                      exact kMeetX (()) (by simp) rfl (.c rfl .n) (.c rfl (.c rfl (.c rfl (.c rfl (.c rfl (.c rfl (.c rfl (.c rfl (.c rfl (.c rfl (.c rfl (.c rfl (.c rfl (.c rfl (.c rfl (.c rfl (.c rfl (.c rfl (.c rfl (.c rfl (.c rfl (.c rfl (.c rfl (.c rfl (.c rfl (.c rfl (.c rfl (.c rfl (.c rfl (.c rfl (.c rfl (.c rfl (.c rfl (.c rfl .n)))))))))))))))))))))))))))))))))) (.c 0 rfl (.c 0 rfl (.c 0 rfl (.c 0 rfl (.c 0 rfl (.c 0 rfl (.c 0 rfl (.c 0 rfl (.c 0 rfl (.c 0 rfl (.c 0 rfl (.c 0 rfl (.c 0 rfl (.c 0 rfl .r))))))))))))))
                    · refine kRegion rfl ?_
                      refine lV (yMove rfl) rfl rfl ?_
                      refine lV (yEql rfl rfl) rfl rfl ?_
                      refine knownN (t := 287) rfl (h287) ?_
                      refine lV (yMove rfl) rfl rfl ?_
                      refine lGN rfl rfl rfl rfl rfl ?_
                      refine lGN rfl rfl rfl rfl rfl ?_
                      refine lGN rfl rfl rfl rfl rfl ?_
                      refine lGU rfl rfl rfl rfl ?_
                      refine lGU rfl rfl rfl rfl ?_
                      refine lGU rfl rfl rfl rfl ?_
                      refine lGU rfl rfl rfl rfl ?_
                      refine lGU rfl rfl rfl rfl ?_
                      refine lGN rfl rfl rfl rfl rfl ?_
                      refine lGN rfl rfl rfl rfl rfl ?_
                      refine lGU rfl rfl rfl rfl ?_
                      refine lGU rfl rfl rfl rfl ?_
                      refine lGU rfl rfl rfl rfl ?_
                      refine lGU rfl rfl rfl rfl ?_
                      refine lGU rfl rfl rfl rfl ?_
                      refine lGN rfl rfl rfl rfl rfl ?_
                      refine lV (yPickF rfl rfl) rfl rfl ?_
                      refine lNil ?_
                      exact kMeetX (()) (by simp) rfl (.c rfl .n) (.c rfl (.c rfl (.c rfl (.c rfl (.c rfl (.c rfl (.c rfl (.c rfl (.c rfl (.c rfl (.c rfl (.c rfl (.c rfl (.c rfl (.c rfl (.c rfl (.c rfl (.c rfl (.c rfl (.c rfl (.c rfl (.c rfl (.c rfl (.c rfl (.c rfl (.c rfl (.c rfl (.c rfl (.c rfl (.c rfl (.c rfl (.c rfl (.c rfl (.c rfl .n)))))))))))))))))))))))))))))))))) (.c 0 rfl (.c 0 rfl (.c 0 rfl (.c 0 rfl (.c 0 rfl (.c 0 rfl (.c 0 rfl (.c 0 rfl (.c 0 rfl (.c 0 rfl (.c 0 rfl (.c 0 rfl (.c 0 rfl (.c 0 rfl .r))))))))))))))
                  · refine kIfF rfl ?_
                    refine kSkip ?_
                    refine kThen ?_
                    refine kSeq ?_
                    refine weak [(1, _), (2, _), (14, _), (15, _), (17, _), (18, _), (19, _), (20, _), (21, _), (22, _), (23, _), (24, _), (25, _), (26, _), (27, _), (28, _), (29, _), (30, _), (32, _), (37, _), (38, _), (39, _), (206, _), (207, _), (208, _), (209, _), (210, _)] (.c rfl (.c rfl (.c rfl (.c rfl (.c rfl (.c rfl (.c rfl (.c rfl (.c rfl (.c rfl (.c rfl (.c rfl (.c rfl (.c rfl (.c rfl (.c rfl (.c rfl (.c rfl (.c rfl (.c rfl (.c rfl (.c rfl (.c rfl (.c rfl (.c rfl (.c rfl (.c rfl .n))))))))))))))))))))))))))) ?_
                    refine kRegion rfl ?_
                    refine lV (yLoadA (vs := [_, _, _]) rfl A26 (cOwn 3 rfl rfl)) rfl rfl ?_
                    refine lV (yMove rfl) rfl rfl ?_
                    refine lV (yMove rfl) rfl rfl ?_
                    refine lV (yCall rfl (.c rfl (.c rfl (.c rfl .n))) C21 (fun w hw => apart_any zl.1 zl.2 a b w (hz w (hw.sub (.d 0 (.d 0 (.d 0 (.d 0 (.d 0 (.d 0 (.d 0 (.d 0 (.d 0 (.d 0 (.d 0 (.d 0 (.d 0 (.d 0 .r)))))))))))))))) hz6)) rfl rfl ?_
                    refine lV (yMove rfl) rfl rfl ?_
                    refine lV (yExtract rfl rfl) rfl rfl ?_
                    refine lV (yExtract rfl rfl) rfl rfl ?_
                    refine lV (yExtract rfl rfl) rfl rfl ?_
                    refine lE rfl ?_
                    refine eStoreL 1 rfl rfl rfl rfl K23 rfl (rfl) ?_
                    refine lE rfl ?_
                    refine eStoreL 0 rfl rfl rfl rfl K23 rfl (rfl) ?_
                    refine lV (yAssign rfl) rfl rfl ?_
                    refine lNil ?_
                    refine kThen ?_
                    refine kSeq ?_
                    refine forgetP ([(n38, _), (n37, _), (n35, _), (n32, _), (n208, _), (n27, _), (n26, _), (n24, _), (n23, _), (n21, _), (n20, _), (n18, _), (n14, _), (n15, _)] ++ B) (.c 0 rfl (.c 0 rfl (.c 0 rfl (.c 0 rfl (.c 0 rfl (.c 0 rfl (.c 0 rfl (.c 0 rfl (.c 0 rfl (.c 0 rfl (.c 0 rfl (.c 0 rfl (.c 0 rfl (.c 0 rfl (by exact SubP.r))))))))))))))) ?_
                    refine kCutX (ι := Unit) (fun _ => True) (fun _ => [(333, .bool false)]) [(1, _), (2, _), (14, _), (15, _), (17, _), (18, _), (19, _), (20, _), (21, _), (22, _), (23, _), (24, _), (25, _), (26, _), (27, _), (28, _), (29, _), (30, _), (32, _), (37, _), (38, _), (39, _), (206, _), (207, _), (208, _), (209, _), (210, _), (307, _), (308, _), (309, _), (310, _), (306, _), (311, _), (312, _), (313, _)] (fun _ => []) (fun _ => B) [(n38, _), (n37, _), (n35, _), (n32, _), (n208, _), (n27, _), (n26, _), (n24, _), (n23, _), (n21, _), (n20, _), (n18, _), (n14, _), (n15, _)] (.c rfl (.c rfl (.c rfl (.c rfl (.c rfl (.c rfl (.c rfl (.c rfl (.c rfl (.c rfl (.c rfl (.c rfl (.c rfl (.c rfl (.c rfl (.c rfl (.c rfl (.c rfl (.c rfl (.c rfl (.c rfl (.c rfl (.c rfl (.c rfl (.c rfl (.c rfl (.c rfl (.c rfl (.c rfl (.c rfl (.c rfl (.c rfl (.c rfl (.c rfl (.c rfl .n))))))))))))))))))))))))))))))))))) (.c 0 rfl (.c 0 rfl (.c 0 rfl (.c 0 rfl (.c 0 rfl (.c 0 rfl (.c 0 rfl (.c 0 rfl (.c 0 rfl (.c 0 rfl (.c 0 rfl (.c 0 rfl (.c 0 rfl (.c 0 rfl .n)))))))))))))) ?_ (fun u43 _ => ?_)
                    · by_cases h315 : (apartE p a b).2.2 = 0
                      · have fz := fine_apart hzp hzf hzs h315
                        refine kRegion rfl ?_
                        refine lV (yMove rfl) rfl rfl ?_
                        refine lV (yEql rfl rfl) rfl rfl ?_
                        refine known (t := 315) rfl (h315) ?_
                        refine lV (yMove rfl) rfl rfl ?_
                        refine lGY rfl rfl rfl (oV (yMove rfl) rfl ?_)
                        refine lGY rfl rfl rfl (oV (yNeq rfl rfl) rfl ?_)
                        refine knownN (t := 318) rfl (fun h => h fz.1) ?_
                        refine lGY rfl rfl rfl (oV (yMove rfl) rfl ?_)
                        refine lGY rfl rfl rfl (oV (yMove rfl) rfl ?_)
                        refine lGY rfl rfl rfl (oV (yLoadA (vs := [_, _]) rfl A23 (cOwn 1 rfl rfl)) rfl ?_)
                        refine lGY rfl rfl rfl (oV (yLoadA (vs := [_, _]) rfl A23 (cOwn 6 rfl rfl)) rfl ?_)
                        refine lGY rfl rfl rfl (oV (yCall rfl (.c rfl (.c rfl .n)) C44 (fun w hw => in_any (apartE zl.2 a b).1 (apartE p a b).1 true w ⟨fun _ => fz.2.1, fun _ => rfl⟩)) rfl ?_)
                        refine lGY rfl rfl rfl (oV (yNot rfl) rfl ?_)
                        refine lGY rfl rfl rfl (oV (yPickF rfl rfl) rfl ?_)
                        refine lGY rfl rfl rfl (oV (yMove rfl) rfl ?_)
                        refine lGY rfl rfl rfl (oV (yMove rfl) rfl ?_)
                        refine lGY rfl rfl rfl (oV (yLoadA (vs := [_, _]) rfl A23 (cOwn 0 rfl rfl)) rfl ?_)
                        refine lGY rfl rfl rfl (oV (yLoadA (vs := [_, _]) rfl A23 (cOwn 5 rfl rfl)) rfl ?_)
                        refine lGY rfl rfl rfl (oV (yCall rfl (.c rfl (.c rfl .n)) C44 (fun w hw => in_any (apartE zl.2 a b).2.1 (apartE p a b).2.1 true w ⟨fun _ => fz.2.2, fun _ => rfl⟩)) rfl ?_)
                        refine lGY rfl rfl rfl (oV (yNot rfl) rfl ?_)
                        refine lGY rfl rfl rfl (oV (yPickF rfl rfl) rfl ?_)
                        refine lV (yPickT rfl rfl) rfl rfl ?_
                        refine lNil ?_
                        exact kMeetX (()) (by simp) rfl (.c rfl .n) (.c rfl (.c rfl (.c rfl (.c rfl (.c rfl (.c rfl (.c rfl (.c rfl (.c rfl (.c rfl (.c rfl (.c rfl (.c rfl (.c rfl (.c rfl (.c rfl (.c rfl (.c rfl (.c rfl (.c rfl (.c rfl (.c rfl (.c rfl (.c rfl (.c rfl (.c rfl (.c rfl (.c rfl (.c rfl (.c rfl (.c rfl (.c rfl (.c rfl (.c rfl (.c rfl .n))))))))))))))))))))))))))))))))))) (.c 0 rfl (.c 0 rfl (.c 0 rfl (.c 0 rfl (.c 0 rfl (.c 0 rfl (.c 0 rfl (.c 0 rfl (.c 0 rfl (.c 0 rfl (.c 0 rfl (.c 0 rfl (.c 0 rfl (.c 0 rfl .r))))))))))))))
                      · refine kRegion rfl ?_
                        refine lV (yMove rfl) rfl rfl ?_
                        refine lV (yEql rfl rfl) rfl rfl ?_
                        refine knownN (t := 315) rfl (h315) ?_
                        refine lV (yMove rfl) rfl rfl ?_
                        refine lGN rfl rfl rfl rfl rfl ?_
                        refine lGN rfl rfl rfl rfl rfl ?_
                        refine lGN rfl rfl rfl rfl rfl ?_
                        refine lGU rfl rfl rfl rfl ?_
                        refine lGU rfl rfl rfl rfl ?_
                        refine lGU rfl rfl rfl rfl ?_
                        refine lGU rfl rfl rfl rfl ?_
                        refine lGU rfl rfl rfl rfl ?_
                        refine lGN rfl rfl rfl rfl rfl ?_
                        refine lGN rfl rfl rfl rfl rfl ?_
                        refine lGU rfl rfl rfl rfl ?_
                        refine lGU rfl rfl rfl rfl ?_
                        refine lGU rfl rfl rfl rfl ?_
                        refine lGU rfl rfl rfl rfl ?_
                        refine lGU rfl rfl rfl rfl ?_
                        refine lGN rfl rfl rfl rfl rfl ?_
                        refine lV (yPickF rfl rfl) rfl rfl ?_
                        refine lNil ?_
                        exact kMeetX (()) (by simp) rfl (.c rfl .n) (.c rfl (.c rfl (.c rfl (.c rfl (.c rfl (.c rfl (.c rfl (.c rfl (.c rfl (.c rfl (.c rfl (.c rfl (.c rfl (.c rfl (.c rfl (.c rfl (.c rfl (.c rfl (.c rfl (.c rfl (.c rfl (.c rfl (.c rfl (.c rfl (.c rfl (.c rfl (.c rfl (.c rfl (.c rfl (.c rfl (.c rfl (.c rfl (.c rfl (.c rfl (.c rfl .n))))))))))))))))))))))))))))))))))) (.c 0 rfl (.c 0 rfl (.c 0 rfl (.c 0 rfl (.c 0 rfl (.c 0 rfl (.c 0 rfl (.c 0 rfl (.c 0 rfl (.c 0 rfl (.c 0 rfl (.c 0 rfl (.c 0 rfl (.c 0 rfl .r))))))))))))))
                    · refine kIfF rfl ?_
                      refine kSkip ?_
                      refine kInN ?_
                      refine kThen ?_
                      refine kRegion rfl ?_
                      refine lV (yArith rfl rfl ((.inl ⟨rfl, IntWalk.i64_in _ hi3⟩))) rfl rfl ?_
                      refine lV (yMove rfl) rfl rfl ?_
                      refine lNil ?_
                      exact kRoundX (i + 1) (hi1) (hi2) rfl (.c rfl .n) (.c rfl (.c rfl (.c rfl (.c rfl (.c rfl (.c rfl (.c rfl (.c rfl (.c rfl (.c rfl (.c rfl (.c rfl (.c rfl (.c rfl (.c rfl (.c rfl (.c rfl (.c rfl (.c rfl (.c rfl (.c rfl (.c rfl .n)))))))))))))))))))))) (.c 4 rfl (.c 4 rfl (.c 4 rfl (.c 4 rfl (.c 4 rfl (.c 4 rfl (.c 4 rfl (.c 4 rfl (.c 4 rfl (.c 4 rfl (.d 0 (.d 0 (.d 0 (.d 0 .r))))))))))))))
          · refine kIfF rfl ?_
            refine kExit ?_
            refine kThenX ?_
            refine kThenX ?_
            refine kInX ?_
            refine kThen ?_
            refine kSeq ?_
            refine kRegion rfl ?_
            refine lV (yCall rfl .n C14 (fun w hw => alive_any w)) rfl rfl ?_
            refine lV (yAssign rfl) rfl rfl ?_
            refine lNil ?_
            refine kThen ?_
            refine kRet ?_
            refine fRet rfl (.t rfl .n) (endRet ?_)
            rfl

theorem pmore_any (y : Option Addr × Nat) (p : Plt) (a b : Int) (wh : Nat) (e m : Int × Int) (w : World) (hm : InP w y p) (hwh : wh < 256) :
    Calls Try.prog 9 [.agg (pltC y p).toArray, i64 a, i64 b, .int .u8 (wh : Nat), .agg (rowE e).toArray, .agg (rowE m).toArray].toArray w (Ret w (.bool true)) := by
  by_cases hp : PltOk p
  · exact pmore_ok y p a b wh e m w hm hp hwh
  · exact pmore_bad y p a b wh e m w hm hp
end Go.Proofs.Ytlcdohhhhlhpmaa
