/-
  Walks: how far apart the document says two stars are: it is what the program says.
-/
import Derived.Test.YtlcdohhhhlhpmaaJg
import Derived.Test.YtlcdohhhhlhpmaaFb
namespace Go.Proofs.Ytlcdohhhhlhpmaa
open ZW

theorem known0 {p : Plt} (hk : knownP p = 0) {n : Nat} (hn : n < p.st.length) : (p.st.getD n star0).k = false := by
  have := kbit hn
  rw [hk, Nat.zero_testBit] at this
  exact this.symm
/-- A corner that is gone through. -/
theorem bc_val {p : Plt} {m n : Nat} {d : Bool} {s : Int} (hmn : m < p.st.length ∧ n < p.st.length) (hs : s ∈ scalesP p (knownP p)) {x : Int} (hx : (bcP p d s).1 ≤ x ∧ x ≤ (bcP p d s).2) :
    ∃ x', ((cornP p d s (knownP p)).1 ≤ x' ∧ x' ≤ (cornP p d s (knownP p)).2) ∧ bfV p m n d s x' = bfV p m n d s x := by
  unfold bcP at hx
  by_cases hk : knownP p = 0
  · refine ⟨(cornP p d s (knownP p)).1, ⟨Int.le_refl _, (mem_at hs d).1⟩, ?_⟩
    have h1 := known0 hk hmn.1
    have h2 := known0 hk hmn.2
    unfold bfV
    rw [place_not h1, place_not h2, place_not h1, place_not h2]
    refine Prod.ext ?_ ?_ <;> (dsimp only; omega)
  · rw [if_neg hk] at hx
    exact ⟨x, hx, rfl⟩
theorem bc_back {p : Plt} {m n : Nat} {d : Bool} {s : Int} (hmn : m < p.st.length ∧ n < p.st.length) {x : Int} (hx : (cornP p d s (knownP p)).1 ≤ x ∧ x ≤ (cornP p d s (knownP p)).2) :
    ∃ x', ((bcP p d s).1 ≤ x' ∧ x' ≤ (bcP p d s).2) ∧ bfV p m n d s x' = bfV p m n d s x := by
  unfold bcP
  by_cases hk : knownP p = 0
  · rw [if_pos hk]
    refine ⟨0, ⟨Int.le_refl _, Int.le_refl _⟩, ?_⟩
    have h1 := known0 hk hmn.1
    have h2 := known0 hk hmn.2
    unfold bfV
    rw [place_not h1, place_not h2, place_not h1, place_not h2]
    refine Prod.ext ?_ ?_ <;> (dsimp only; omega)
  · rw [if_neg hk]
    exact ⟨x, hx, rfl⟩
theorem bc_le {p : Plt} {d : Bool} {s : Int} (hs : s ∈ scalesP p (knownP p)) : (bcP p d s).1 ≤ (bcP p d s).2 := by
  unfold bcP
  split
  · exact Int.le_refl _
  · exact (mem_at hs d).1
theorem bt_spec {p : Plt} {m n : Nat} {d : Bool} {s : Int} (hmn : m < p.st.length ∧ n < p.st.length) (hs : s ∈ scalesP p (knownP p)) :
    (∃ x, ((cornP p d s (knownP p)).1 ≤ x ∧ x ≤ (cornP p d s (knownP p)).2) ∧ (btV p m n d s).1 = (bfV p m n d s x).1) ∧
    (∃ x, ((cornP p d s (knownP p)).1 ≤ x ∧ x ≤ (cornP p d s (knownP p)).2) ∧ (btV p m n d s).2 = (bfV p m n d s x).2) ∧
    ∀ x, ((cornP p d s (knownP p)).1 ≤ x ∧ x ≤ (cornP p d s (knownP p)).2) → (btV p m n d s).1 ≤ (bfV p m n d s x).1 ∧ (bfV p m n d s x).2 ≤ (btV p m n d s).2 := by
  have hle := bc_le (d := d) hs
  obtain ⟨⟨i, hi, e1⟩, ⟨j, hj, e2⟩, hall⟩ := hullF_spec (bfF p m n d s (bcP p d s).1) ((bcP p d s).2 - (bcP p d s).1 + 1).toNat (by omega)
  have b1 : (btV p m n d s).1 = (bfV p m n d s ((bcP p d s).1 + (i : Int))).1 := e1
  have b2 : (btV p m n d s).2 = (bfV p m n d s ((bcP p d s).1 + (j : Int))).2 := e2
  refine ⟨?_, ?_, fun x hx => ?_⟩
  · obtain ⟨x, hx, e⟩ := bc_val hmn hs (d := d) (x := (bcP p d s).1 + (i : Int)) (by omega)
    exact ⟨x, hx, by rw [b1, e]⟩
  · obtain ⟨x, hx, e⟩ := bc_val hmn hs (d := d) (x := (bcP p d s).1 + (j : Int)) (by omega)
    exact ⟨x, hx, by rw [b2, e]⟩
  · obtain ⟨x', hx', e⟩ := bc_back hmn hx
    have h := hall (x' - (bcP p d s).1).toNat (by omega)
    have e3 : bfF p m n d s (bcP p d s).1 (x' - (bcP p d s).1).toNat = bfV p m n d s x := by
      rw [← e]
      show bfV p m n d s _ = _
      rw [show (bcP p d s).1 + ((x' - (bcP p d s).1).toNat : Int) = x' by omega]
    rw [e3] at h
    exact h
theorem bf_le {p : Plt} (hp : PltOk p) {m n : Nat} {d : Bool} {s : Int} (hmn : m < p.st.length ∧ n < p.st.length) (hs : s ∈ scalesP p (knownP p)) {x : Int} (hx : (cornP p d s (knownP p)).1 ≤ x ∧ x ≤ (cornP p d s (knownP p)).2) : (bfV p m n d s x).1 ≤ (bfV p m n d s x).2 := by
  have h1 := place_ok hp hmn.1 d hs hx
  have h2 := place_ok hp hmn.2 d hs hx
  show _ - _ ≤ _ - _
  omega
def af (p : Plt) (m n : Nat) (d : Bool) (i : Nat) : Int × Int := btV p m n d ((scalesP p (knownP p)).getD i 0)
theorem af_eq {p : Plt} (hp : PltOk p) {m n : Nat} (hmn : m < p.st.length ∧ n < p.st.length) (d : Bool) (hs : scalesP p (knownP p) ≠ []) : hullF (af p m n d) (scalesP p (knownP p)).length = spanE (apartH p m n d) := by
  obtain ⟨⟨i, hi, e1⟩, ⟨j, hj, e2⟩, hall⟩ := hullF_spec (af p m n d) (scalesP p (knownP p)).length (List.length_pos_iff.2 hs)
  have hmi := getD_mem hi 0
  have hmj := getD_mem hj 0
  obtain ⟨⟨x, hx, e3⟩, _, _⟩ := bt_spec (d := d) hmn hmi
  obtain ⟨_, ⟨z, hz, e4⟩, _⟩ := bt_spec (d := d) hmn hmj
  have a1 := apart_all (i := m) (k := n) hmi hx
  have a2 := apart_all (i := m) (k := n) hmj hz
  have key : ∀ v, v ∈ (scalesP p (knownP p)).flatMap (apartQ p m n d) → (hullF (af p m n d) (scalesP p (knownP p)).length).1 ≤ v ∧ v ≤ (hullF (af p m n d) (scalesP p (knownP p)).length).2 := fun v hv => by
    obtain ⟨s, hms, hv⟩ := apart_mem.1 hv
    obtain ⟨q, _, hv⟩ := apartG_mem.1 hv
    obtain ⟨k, hk, rfl⟩ := List.mem_iff_getElem.1 hms
    rw [List.getElem_eq_getD (h := hk) 0] at hms hv
    have hc := clamp_in (mem_at hms d).1 q
    have h1 := (bt_spec (d := d) hmn hms).2.2 _ hc
    have h2 := bf_le hp hmn hms hc
    have h3 := hall k hk
    have h3a : (hullF (af p m n d) (scalesP p (knownP p)).length).1 ≤ (btV p m n d ((scalesP p (knownP p)).getD k 0)).1 := h3.1
    have h3b : (btV p m n d ((scalesP p (knownP p)).getD k 0)).2 ≤ (hullF (af p m n d) (scalesP p (knownP p)).length).2 := h3.2
    dsimp only [bfV] at h1 h2
    omega
  have e1' : (hullF (af p m n d) (scalesP p (knownP p)).length).1 = (btV p m n d ((scalesP p (knownP p)).getD i 0)).1 := e1
  have e2' : (hullF (af p m n d) (scalesP p (knownP p)).length).2 = (btV p m n d ((scalesP p (knownP p)).getD j 0)).2 := e2
  obtain ⟨v, hv⟩ := List.exists_mem_of_ne_nil _ (apartG_ne d (p.st.getD m star0) (p.st.getD n star0) ((scalesP p (knownP p)).getD i 0) (cornP p d ((scalesP p (knownP p)).getD i 0) (knownP p)))
  have hv := apart_mem.2 ⟨_, hmi, hv⟩
  rcases hullE_hull ((scalesP p (knownP p)).flatMap (apartQ p m n d)) with ⟨_, h⟩ | ⟨_, h2, h3, _⟩
  · exact absurd hv (h _)
  · have k1 := (key _ h2).1
    have k2 := (key _ h3).2
    have k1' : (hullF (af p m n d) (scalesP p (knownP p)).length).1 ≤ (apartH p m n d).lo := k1
    have k2' : (apartH p m n d).hi ≤ (hullF (af p m n d) (scalesP p (knownP p)).length).2 := k2
    unfold spanE
    dsimp only [bfV] at e3 e4
    refine Prod.ext ?_ ?_
    · dsimp only; omega
    · dsimp only; omega
set_option maxRecDepth 100000 in
set_option maxHeartbeats 4000000 in
theorem rapart_bad (y : Option Addr × Nat) (p : Plt) (m n : Int) (w : World) (hm : InP w y p) (hL : p.st.length ≤ 30) (h : truthE p (isStarB p m && isStarB p n) ≠ 0) : Calls Try.prog 22 [.agg (pltC y p).toArray, i64 m, i64 n].toArray w (Ret w (outC2 (apartE p m n))) := by
  have e : apartE p m n = ((0, 0), (0, 0), truthE p (isStarB p m && isStarB p n)) := by unfold apartE; rw [if_pos h]
  rw [e]
  by_cases hb : isStarB p m = true
  · rw [hb] at h ⊢
    refine fEnter Try.func22 rfl Try.ntmps22 rfl ?_
    refine kSeq ?_
    refine kRegion rfl ?_
    refine lE rfl ?_
    refine eBoxA rfl fun n3 => ?_
    refine lE rfl ?_
    refine eAlloc Z23 fun n6 => ?_
    refine lE rfl ?_
    refine eAlloc Z23 fun n7 => ?_
    refine lV (yAssign rfl) rfl rfl ?_
    refine lNil ?_
    refine kThen ?_
    refine kSeq ?_
    refine kDrawE [(0, none), (1, none), (3, none), (5, none), (7, none), (9, none)] [] [0, 1, 2, 3, 4, 5, 6, 7, 8, 9, 10, 11, 12, 13, 14] 0 hMix (by kernel_rfl) ?_
    refine .run rfl (yLoadA (vs := [_, _, _]) rfl A26 (cOwn 2 rfl rfl)) rfl rfl ?_
    refine .run rfl (yLoadA (vs := [_, _, _]) rfl A26 (cOwn 2 rfl rfl)) rfl rfl ?_
    refine .run rfl (yMove rfl) rfl rfl ?_
    refine .run rfl (yvIs (c := true) (yCall rfl (.c rfl (.c rfl .n)) C66 (fun w hw => rstarB_any y p m w (by omega))) (hb)) rfl rfl ?_
    refine .run rfl (yMove rfl) rfl rfl ?_
    refine .runG rfl (yLoadA (vs := [_, _, _]) rfl A26 (cOwn 2 rfl rfl)) rfl rfl rfl rfl ?_
    refine .runG rfl (yMove rfl) rfl rfl rfl rfl ?_
    refine .runG rfl (yCall rfl (.c rfl (.c rfl .n)) C66 (fun w hw => rstarB_any y p n w (by omega))) rfl rfl rfl rfl ?_
    refine .run rfl (yPickT rfl rfl) rfl rfl ?_
    refine .run rfl (yCall rfl (.c rfl (.c rfl .n)) C57 (fun w hw => ropen_err y p (isStarB p n) w (hm.eff0 hw) hL h)) rfl rfl ?_
    refine .run rfl (yMove rfl) rfl rfl ?_
    refine .run rfl (yExtract rfl rfl) rfl rfl ?_
    refine .run rfl (yExtract rfl rfl) rfl rfl ?_
    refine .run rfl (yAssign rfl) rfl rfl ?_
    refine .run rfl (yAssign rfl) rfl rfl ?_
    refine .done ?_
    refine effDone closedSt (hLeft [0, 1, 3, 5, 7, 9] (by kernel_rfl) (.c (fun _ _ hs => hs.ef) (.c (fun _ _ hs => hs.ef) (.c (fun _ _ hs => hs.ef) (.c (fun _ _ hs => hs.ef) (.c (fun _ _ hs => hs.ef) (.c (fun _ _ hs => hs.ef) .n))))))) (by kernel_rfl) ?_
    refine kThen ?_
    refine kSeq ?_
    refine kSeq ?_
    refine kRegion rfl ?_
    refine lV (yMove rfl) rfl rfl ?_
    refine lV (yNeq rfl rfl) rfl rfl ?_
    refine known (t := 28) rfl (h) ?_
    refine lV (yMove rfl) rfl rfl ?_
    refine lGN rfl rfl rfl rfl rfl ?_
    refine lGN rfl rfl rfl rfl rfl ?_
    refine lGN rfl rfl rfl rfl rfl ?_
    refine lV (yPickT rfl rfl) rfl rfl ?_
    refine lNil ?_
    refine kThen ?_
    refine kIfT rfl ?_
    refine kSeq ?_
    refine kRegion rfl ?_
    refine lV (yBuild .n (fun w => B23_ w)) rfl rfl ?_
    refine lV (yBuild .n (fun w => B23_ w)) rfl rfl ?_
    refine lV (yMove rfl) rfl rfl ?_
    refine lE rfl ?_
    refine eStoreL 1 rfl rfl rfl rfl K23 rfl (rfl) ?_
    refine lE rfl ?_
    refine eStoreL 0 rfl rfl rfl rfl K23 rfl (rfl) ?_
    refine lV (yAssign rfl) rfl rfl ?_
    refine lNil ?_
    refine kThen ?_
    refine kRet ?_
    refine kThenR ?_
    refine fRet rfl (.cA (us := [_, _]) rfl A23 (cOwn 1 rfl rfl) (.cA (us := [_, _]) rfl A23 (cOwn 0 rfl rfl) (.t rfl .n))) (endRet ?_)
    rfl
  · have hb : isStarB p m = false := by simpa using hb
    rw [hb] at h ⊢
    refine fEnter Try.func22 rfl Try.ntmps22 rfl ?_
    refine kSeq ?_
    refine kRegion rfl ?_
    refine lE rfl ?_
    refine eBoxA rfl fun n3 => ?_
    refine lE rfl ?_
    refine eAlloc Z23 fun n6 => ?_
    refine lE rfl ?_
    refine eAlloc Z23 fun n7 => ?_
    refine lV (yAssign rfl) rfl rfl ?_
    refine lNil ?_
    refine kThen ?_
    refine kSeq ?_
    refine kDrawE [(0, none), (1, none), (3, none), (9, none)] [] [0, 1, 2, 3, 4, 5, 6, 7, 8, 9, 10, 11, 12, 13, 14] 0 hMix (by kernel_rfl) ?_
    refine .run rfl (yLoadA (vs := [_, _, _]) rfl A26 (cOwn 2 rfl rfl)) rfl rfl ?_
    refine .run rfl (yLoadA (vs := [_, _, _]) rfl A26 (cOwn 2 rfl rfl)) rfl rfl ?_
    refine .run rfl (yMove rfl) rfl rfl ?_
    refine .run rfl (yvIs (c := false) (yCall rfl (.c rfl (.c rfl .n)) C66 (fun w hw => rstarB_any y p m w (by omega))) (hb)) rfl rfl ?_
    refine .run rfl (yMove rfl) rfl rfl ?_
    refine .skip rfl rfl rfl rfl rfl rfl ?_
    refine .skip rfl rfl rfl rfl rfl rfl ?_
    refine .skip rfl rfl rfl rfl rfl rfl ?_
    refine .run rfl (yPickF rfl rfl) rfl rfl ?_
    refine .run rfl (yCall rfl (.c rfl (.c rfl .n)) C57 (fun w hw => ropen_err y p false w (hm.eff0 hw) hL h)) rfl rfl ?_
    refine .run rfl (yMove rfl) rfl rfl ?_
    refine .run rfl (yExtract rfl rfl) rfl rfl ?_
    refine .run rfl (yExtract rfl rfl) rfl rfl ?_
    refine .run rfl (yAssign rfl) rfl rfl ?_
    refine .run rfl (yAssign rfl) rfl rfl ?_
    refine .done ?_
    refine effDone closedSt (hLeft [0, 1, 3, 9] (by kernel_rfl) (.c (fun _ _ hs => hs.ef) (.c (fun _ _ hs => hs.ef) (.c (fun _ _ hs => hs.ef) (.c (fun _ _ hs => hs.ef) .n))))) (by kernel_rfl) ?_
    refine kThen ?_
    refine kSeq ?_
    refine kSeq ?_
    refine kRegion rfl ?_
    refine lV (yMove rfl) rfl rfl ?_
    refine lV (yNeq rfl rfl) rfl rfl ?_
    refine known (t := 28) rfl (h) ?_
    refine lV (yMove rfl) rfl rfl ?_
    refine lGN rfl rfl rfl rfl rfl ?_
    refine lGN rfl rfl rfl rfl rfl ?_
    refine lGN rfl rfl rfl rfl rfl ?_
    refine lV (yPickT rfl rfl) rfl rfl ?_
    refine lNil ?_
    refine kThen ?_
    refine kIfT rfl ?_
    refine kSeq ?_
    refine kRegion rfl ?_
    refine lV (yBuild .n (fun w => B23_ w)) rfl rfl ?_
    refine lV (yBuild .n (fun w => B23_ w)) rfl rfl ?_
    refine lV (yMove rfl) rfl rfl ?_
    refine lE rfl ?_
    refine eStoreL 1 rfl rfl rfl rfl K23 rfl (rfl) ?_
    refine lE rfl ?_
    refine eStoreL 0 rfl rfl rfl rfl K23 rfl (rfl) ?_
    refine lV (yAssign rfl) rfl rfl ?_
    refine lNil ?_
    refine kThen ?_
    refine kRet ?_
    refine kThenR ?_
    refine fRet rfl (.cA (us := [_, _]) rfl A23 (cOwn 1 rfl rfl) (.cA (us := [_, _]) rfl A23 (cOwn 0 rfl rfl) (.t rfl .n))) (endRet ?_)
    rfl
set_option maxRecDepth 100000 in
set_option maxHeartbeats 4000000 in
theorem rapart_same (y : Option Addr × Nat) (p : Plt) (m : Nat) (w : World) (hm : InP w y p) (hp : PltOk p) (hmn : m < p.st.length) (hs : scalesP p (knownP p) ≠ []) :
    Calls Try.prog 22 [.agg (pltC y p).toArray, i64 (m : Nat), i64 (m : Nat)].toArray w (Ret w (outC2 ((0, 0), (0, 0), 0))) := by
  have hl := hp.n
  have hb1 : isStarB p (m : Nat) = true := decide_eq_true (by omega)
  refine fEnter Try.func22 rfl Try.ntmps22 rfl ?_
  refine kSeq ?_
  refine kRegion rfl ?_
  refine lE rfl ?_
  refine eBoxA rfl fun n3 => ?_
  refine lE rfl ?_
  refine eAlloc Z23 fun n6 => ?_
  refine lE rfl ?_
  refine eAlloc Z23 fun n7 => ?_
  refine lV (yAssign rfl) rfl rfl ?_
  refine lNil ?_
  refine kThen ?_
  refine kSeq ?_
  refine kDrawE [(0, none), (1, none), (3, none), (5, none), (7, none)] [] [0, 1, 2, 3, 4, 5, 6, 7, 8] 6 hMix (by kernel_rfl) ?_
  refine .run rfl (yLoadA (vs := [_, _, _]) rfl A26 (cOwn 2 rfl rfl)) rfl rfl ?_
  refine .run rfl (yLoadA (vs := [_, _, _]) rfl A26 (cOwn 2 rfl rfl)) rfl rfl ?_
  refine .run rfl (yMove rfl) rfl rfl ?_
  refine .run rfl (yvIs (c := true) (yCall rfl (.c rfl (.c rfl .n)) C66 (fun w hw => rstarB_any y p (m : Nat) w (by omega))) (hb1)) rfl rfl ?_
  refine .run rfl (yMove rfl) rfl rfl ?_
  refine .runG rfl (yLoadA (vs := [_, _, _]) rfl A26 (cOwn 2 rfl rfl)) rfl rfl rfl rfl ?_
  refine .runG rfl (yMove rfl) rfl rfl rfl rfl ?_
  refine .runG rfl (yvIs (c := true) (yCall rfl (.c rfl (.c rfl .n)) C66 (fun w hw => rstarB_any y p (m : Nat) w (by omega))) (hb1)) rfl rfl rfl rfl ?_
  refine .run rfl (yPickT rfl rfl) rfl rfl ?_
  refine .done ?_
  refine effStep 9 [] (by kernel_rfl) closedSt (hLeft [0, 1, 3, 5, 7] (by kernel_rfl) (.c (fun _ _ hs => hs.ef) (.c (fun _ _ hs => hs.ef) (.c (fun _ _ hs => hs.ef) (.c (fun _ _ hs => hs.ef) (.c (fun _ _ hs => hs.ef) .n)))))) ?_
  refine .c ?_ .n
  refine effOne rfl (gNone rfl (fCallO rfl (.c rfl (.c rfl .n)) C57 (fun w hw => ropen_ok y p w (hm.eff0 hw) hp hs))) ?_
  refine effStep 10 [] (by kernel_rfl) (closedEx fun g => closedSt) (hLeft [1] (by kernel_rfl) (.c (fun _ _ ⟨g, hs⟩ => hs.ef.sub (.c 0 rfl (.c 0 rfl (.c 0 rfl .n)))) .n)) ?_
  refine .c ?_ .n
  refine effOne rfl (opEx fun g => (gNone rfl (fV (yMove rfl) rfl))) ?_
  refine effStep 11 [12] (by kernel_rfl) (closedEx fun g => closedSt) (hLeft [1] (by kernel_rfl) (.c (fun _ _ ⟨g, hs⟩ => hs.ef.sub (.c 0 rfl (.c 0 rfl (.c 0 rfl .n)))) .n)) ?_
  refine (.c ?_ (.c ?_ .n))
  · refine effOne rfl (opEx fun g => (gNone rfl (fV (yExtract rfl rfl) rfl))) ?_
    refine effStep 12 [13] (by kernel_rfl) (closedEx fun g => closedSt) (hLeft [1] (by kernel_rfl) (.c (fun _ _ ⟨g, hs⟩ => hs.ef.sub (.c 0 rfl (.c 0 rfl (.c 0 rfl .n)))) .n)) ?_
    refine (.c ?_ (.c ?_ .n))
    · refine effOne rfl (opEx fun g => (gNone rfl (fV (yExtract rfl rfl) rfl))) ?_
      refine effStep 13 [] (by kernel_rfl) (closedEx fun g => closedSt) (hLeft [1] (by kernel_rfl) (.c (fun _ _ ⟨g, hs⟩ => hs.ef.sub (.c 0 rfl (.c 0 rfl (.c 0 rfl .n)))) .n)) ?_
      refine .c ?_ .n
      refine effOne rfl (opEx fun g => (gNone rfl (fV (yAssign rfl) rfl))) ?_
      refine effStep 14 [] (by kernel_rfl) (closedEx fun g => closedSt) (hLeft [] (by kernel_rfl) .n) ?_
      refine .c ?_ .n
      refine effOne rfl (opEx fun g => (gNone rfl (fV (yAssign rfl) rfl))) ?_
      refine effDone (closedEx fun g => closedSt) (hLeft [] (by kernel_rfl) .n) (by kernel_rfl) ?_
      refine trEx fun g => ?_
      refine kThen ?_
      refine kSeq ?_
      refine kSeq ?_
      refine kRegion rfl ?_
      refine lV (yMove rfl) rfl rfl ?_
      refine lV (yNeq rfl rfl) rfl rfl ?_
      refine knownB (t := 28) (c := false) rfl (by simp) ?_
      refine lV (yMove rfl) rfl rfl ?_
      refine lGY rfl rfl rfl (oV (yMove rfl) rfl ?_)
      refine lGY rfl rfl rfl (oV (yMove rfl) rfl ?_)
      refine lGY rfl rfl rfl (oV (yEql rfl rfl) rfl ?_)
      refine known (t := 32) rfl (rfl) ?_
      refine lV (yPickF rfl rfl) rfl rfl ?_
      refine lNil ?_
      refine kThen ?_
      refine kIfT rfl ?_
      refine kSeq ?_
      refine kRegion rfl ?_
      refine lV (yBuild .n (fun w => B23_ w)) rfl rfl ?_
      refine lV (yBuild .n (fun w => B23_ w)) rfl rfl ?_
      refine lV (yMove rfl) rfl rfl ?_
      refine lE rfl ?_
      refine eStoreL 1 rfl rfl rfl rfl K23 rfl (rfl) ?_
      refine lE rfl ?_
      refine eStoreL 0 rfl rfl rfl rfl K23 rfl (rfl) ?_
      refine lV (yAssign rfl) rfl rfl ?_
      refine lNil ?_
      refine kThen ?_
      refine kRet ?_
      refine kThenR ?_
      refine fRet rfl (.cA (us := [_, _]) rfl A23 (cOwn 1 rfl rfl) (.cA (us := [_, _]) rfl A23 (cOwn 0 rfl rfl) (.t rfl .n))) (endRet ?_)
      rfl
    · refine effOne rfl (opEx fun g => (gNone rfl (fV (yAssign rfl) rfl))) ?_
      refine effStep 12 [] (by kernel_rfl) (closedEx fun g => closedSt) (hLeft [] (by kernel_rfl) .n) ?_
      refine .c ?_ .n
      refine effOne rfl (opEx fun g => (gNone rfl (fV (yExtract rfl rfl) rfl))) ?_
      refine effStep 14 [] (by kernel_rfl) (closedEx fun g => closedSt) (hLeft [] (by kernel_rfl) .n) ?_
      refine .c ?_ .n
      refine effOne rfl (opEx fun g => (gNone rfl (fV (yAssign rfl) rfl))) ?_
      refine effDone (closedEx fun g => closedSt) (hLeft [] (by kernel_rfl) .n) (by kernel_rfl) ?_
      refine trEx fun g => ?_
      refine kThen ?_
      refine kSeq ?_
      refine kSeq ?_
      refine kRegion rfl ?_
      refine lV (yMove rfl) rfl rfl ?_
      refine lV (yNeq rfl rfl) rfl rfl ?_
      refine knownB (t := 28) (c := false) rfl (by simp) ?_
      refine lV (yMove rfl) rfl rfl ?_
      refine lGY rfl rfl rfl (oV (yMove rfl) rfl ?_)
      refine lGY rfl rfl rfl (oV (yMove rfl) rfl ?_)
      refine lGY rfl rfl rfl (oV (yEql rfl rfl) rfl ?_)
      refine known (t := 32) rfl (rfl) ?_
      refine lV (yPickF rfl rfl) rfl rfl ?_
      refine lNil ?_
      refine kThen ?_
      refine kIfT rfl ?_
      refine kSeq ?_
      refine kRegion rfl ?_
      refine lV (yBuild .n (fun w => B23_ w)) rfl rfl ?_
      refine lV (yBuild .n (fun w => B23_ w)) rfl rfl ?_
      refine lV (yMove rfl) rfl rfl ?_
      refine lE rfl ?_
      refine eStoreL 1 rfl rfl rfl rfl K23 rfl (rfl) ?_
      refine lE rfl ?_
      refine eStoreL 0 rfl rfl rfl rfl K23 rfl (rfl) ?_
      refine lV (yAssign rfl) rfl rfl ?_
      refine lNil ?_
      refine kThen ?_
      refine kRet ?_
      refine kThenR ?_
      refine fRet rfl (.cA (us := [_, _]) rfl A23 (cOwn 1 rfl rfl) (.cA (us := [_, _]) rfl A23 (cOwn 0 rfl rfl) (.t rfl .n))) (endRet ?_)
      rfl
  · refine effOne rfl (opEx fun g => (gNone rfl (fV (yExtract rfl rfl) rfl))) ?_
    refine effStep 11 [] (by kernel_rfl) (closedEx fun g => closedSt) (hLeft [1] (by kernel_rfl) (.c (fun _ _ ⟨g, hs⟩ => hs.ef.sub (.c 0 rfl (.c 0 rfl (.c 0 rfl .n)))) .n)) ?_
    refine .c ?_ .n
    refine effOne rfl (opEx fun g => (gNone rfl (fV (yExtract rfl rfl) rfl))) ?_
    refine effStep 13 [] (by kernel_rfl) (closedEx fun g => closedSt) (hLeft [1] (by kernel_rfl) (.c (fun _ _ ⟨g, hs⟩ => hs.ef.sub (.c 0 rfl (.c 0 rfl (.c 0 rfl .n)))) .n)) ?_
    refine .c ?_ .n
    refine effOne rfl (opEx fun g => (gNone rfl (fV (yAssign rfl) rfl))) ?_
    refine effStep 14 [] (by kernel_rfl) (closedEx fun g => closedSt) (hLeft [] (by kernel_rfl) .n) ?_
    refine .c ?_ .n
    refine effOne rfl (opEx fun g => (gNone rfl (fV (yAssign rfl) rfl))) ?_
    refine effDone (closedEx fun g => closedSt) (hLeft [] (by kernel_rfl) .n) (by kernel_rfl) ?_
    refine trEx fun g => ?_
    refine kThen ?_
    refine kSeq ?_
    refine kSeq ?_
    refine kRegion rfl ?_
    refine lV (yMove rfl) rfl rfl ?_
    refine lV (yNeq rfl rfl) rfl rfl ?_
    refine knownB (t := 28) (c := false) rfl (by simp) ?_
    refine lV (yMove rfl) rfl rfl ?_
    refine lGY rfl rfl rfl (oV (yMove rfl) rfl ?_)
    refine lGY rfl rfl rfl (oV (yMove rfl) rfl ?_)
    refine lGY rfl rfl rfl (oV (yEql rfl rfl) rfl ?_)
    refine known (t := 32) rfl (rfl) ?_
    refine lV (yPickF rfl rfl) rfl rfl ?_
    refine lNil ?_
    refine kThen ?_
    refine kIfT rfl ?_
    refine kSeq ?_
    refine kRegion rfl ?_
    refine lV (yBuild .n (fun w => B23_ w)) rfl rfl ?_
    refine lV (yBuild .n (fun w => B23_ w)) rfl rfl ?_
    refine lV (yMove rfl) rfl rfl ?_
    refine lE rfl ?_
    refine eStoreL 1 rfl rfl rfl rfl K23 rfl (rfl) ?_
    refine lE rfl ?_
    refine eStoreL 0 rfl rfl rfl rfl K23 rfl (rfl) ?_
    refine lV (yAssign rfl) rfl rfl ?_
    refine lNil ?_
    refine kThen ?_
    refine kRet ?_
    refine kThenR ?_
    refine fRet rfl (.cA (us := [_, _]) rfl A23 (cOwn 1 rfl rfl) (.cA (us := [_, _]) rfl A23 (cOwn 0 rfl rfl) (.t rfl .n))) (endRet ?_)
    rfl
set_option maxRecDepth 100000 in
set_option maxHeartbeats 4000000 in
theorem rapart_ok (y : Option Addr × Nat) (p : Plt) (m n : Nat) (w : World) (hm : InP w y p) (hp : PltOk p) (hmn : m < p.st.length ∧ n < p.st.length) (hne : m ≠ n) (hs : scalesP p (knownP p) ≠ []) :
    Calls Try.prog 22 [.agg (pltC y p).toArray, i64 (m : Nat), i64 (n : Nat)].toArray w (Ret w (outC2 (hullF (af p m n false) (scalesP p (knownP p)).length, hullF (af p m n true) (scalesP p (knownP p)).length, 0))) := by
  have hl := hp.n
  have hb1 : isStarB p (m : Nat) = true := decide_eq_true (by omega)
  have hb2 : isStarB p (n : Nat) = true := decide_eq_true (by omega)
  have hsl := scales_len hp
  refine fEnter Try.func22 rfl Try.ntmps22 rfl ?_
  refine kSeq ?_
  refine kRegion rfl ?_
  refine lE rfl ?_
  refine eBoxA rfl fun n3 => ?_
  refine lE rfl ?_
  refine eAlloc Z23 fun n6 => ?_
  refine lE rfl ?_
  refine eAlloc Z23 fun n7 => ?_
  refine lV (yAssign rfl) rfl rfl ?_
  refine lNil ?_
  refine kThen ?_
  refine kSeq ?_
  refine kDrawE [(0, none), (1, none), (3, none), (5, none), (7, none)] [] [0, 1, 2, 3, 4, 5, 6, 7, 8] 6 hMix (by kernel_rfl) ?_
  refine .run rfl (yLoadA (vs := [_, _, _]) rfl A26 (cOwn 2 rfl rfl)) rfl rfl ?_
  refine .run rfl (yLoadA (vs := [_, _, _]) rfl A26 (cOwn 2 rfl rfl)) rfl rfl ?_
  refine .run rfl (yMove rfl) rfl rfl ?_
  refine .run rfl (yvIs (c := true) (yCall rfl (.c rfl (.c rfl .n)) C66 (fun w hw => rstarB_any y p (m : Nat) w (by omega))) (hb1)) rfl rfl ?_
  refine .run rfl (yMove rfl) rfl rfl ?_
  refine .runG rfl (yLoadA (vs := [_, _, _]) rfl A26 (cOwn 2 rfl rfl)) rfl rfl rfl rfl ?_
  refine .runG rfl (yMove rfl) rfl rfl rfl rfl ?_
  refine .runG rfl (yvIs (c := true) (yCall rfl (.c rfl (.c rfl .n)) C66 (fun w hw => rstarB_any y p (n : Nat) w (by omega))) (hb2)) rfl rfl rfl rfl ?_
  refine .run rfl (yPickT rfl rfl) rfl rfl ?_
  refine .done ?_
  refine effStep 9 [] (by kernel_rfl) closedSt (hLeft [0, 1, 3, 5, 7] (by kernel_rfl) (.c (fun _ _ hs => hs.ef) (.c (fun _ _ hs => hs.ef) (.c (fun _ _ hs => hs.ef) (.c (fun _ _ hs => hs.ef) (.c (fun _ _ hs => hs.ef) .n)))))) ?_
  refine .c ?_ .n
  refine effOne rfl (gNone rfl (fCallO rfl (.c rfl (.c rfl .n)) C57 (fun w hw => ropen_ok y p w (hm.eff0 hw) hp hs))) ?_
  refine effStep 10 [] (by kernel_rfl) (closedEx fun g => closedSt) (hLeft [1] (by kernel_rfl) (.c (fun _ _ ⟨g, hs⟩ => hs.ef.sub (.c 0 rfl (.c 0 rfl (.c 0 rfl .n)))) .n)) ?_
  refine .c ?_ .n
  refine effOne rfl (opEx fun g => (gNone rfl (fV (yMove rfl) rfl))) ?_
  refine effStep 11 [12] (by kernel_rfl) (closedEx fun g => closedSt) (hLeft [1] (by kernel_rfl) (.c (fun _ _ ⟨g, hs⟩ => hs.ef.sub (.c 0 rfl (.c 0 rfl (.c 0 rfl .n)))) .n)) ?_
  refine (.c ?_ (.c ?_ .n))
  · refine effOne rfl (opEx fun g => (gNone rfl (fV (yExtract rfl rfl) rfl))) ?_
    refine effStep 12 [13] (by kernel_rfl) (closedEx fun g => closedSt) (hLeft [1] (by kernel_rfl) (.c (fun _ _ ⟨g, hs⟩ => hs.ef.sub (.c 0 rfl (.c 0 rfl (.c 0 rfl .n)))) .n)) ?_
    refine (.c ?_ (.c ?_ .n))
    · refine effOne rfl (opEx fun g => (gNone rfl (fV (yExtract rfl rfl) rfl))) ?_
      refine effStep 13 [] (by kernel_rfl) (closedEx fun g => closedSt) (hLeft [1] (by kernel_rfl) (.c (fun _ _ ⟨g, hs⟩ => hs.ef.sub (.c 0 rfl (.c 0 rfl (.c 0 rfl .n)))) .n)) ?_
      refine .c ?_ .n
      refine effOne rfl (opEx fun g => (gNone rfl (fV (yAssign rfl) rfl))) ?_
      refine effStep 14 [] (by kernel_rfl) (closedEx fun g => closedSt) (hLeft [] (by kernel_rfl) .n) ?_
      refine .c ?_ .n
      refine effOne rfl (opEx fun g => (gNone rfl (fV (yAssign rfl) rfl))) ?_
      refine effDone (closedEx fun g => closedSt) (hLeft [] (by kernel_rfl) .n) (by kernel_rfl) ?_
      refine trEx fun g => ?_
      refine kThen ?_
      refine kSeq ?_
      refine kSeq ?_
      refine kRegion rfl ?_
      refine lV (yMove rfl) rfl rfl ?_
      refine lV (yNeq rfl rfl) rfl rfl ?_
      refine knownB (t := 28) (c := false) rfl (by simp) ?_
      refine lV (yMove rfl) rfl rfl ?_
      refine lGY rfl rfl rfl (oV (yMove rfl) rfl ?_)
      refine lGY rfl rfl rfl (oV (yMove rfl) rfl ?_)
      refine lGY rfl rfl rfl (oV (yEql rfl rfl) rfl ?_)
      refine knownN (t := 32) rfl (by omega) ?_
      refine lV (yPickF rfl rfl) rfl rfl ?_
      refine lNil ?_
      refine kThen ?_
      refine kIfF rfl ?_
      refine kSkip ?_
      refine kThen ?_
      refine kSeq ?_
      refine kRegion rfl ?_
      refine lE rfl ?_
      refine eAlloc Z23 fun n11 => ?_
      refine lE rfl ?_
      refine eAlloc Z23 fun n12 => ?_
      refine lNil ?_
      refine kThen ?_
      refine kSeq ?_
      refine kSeq ?_
      refine kRegion rfl ?_
      refine lV (yAssign rfl) rfl rfl ?_
      refine lNil ?_
      refine kThen ?_
      refine kBlock ?_
      refine kLoopX (ι := Nat) (fun i => i ≤ (scalesP p (knownP p)).length) (fun i => [(13, i64 (i : Nat))]) [(0, _), (1, _), (2, _), (3, _), (6, _), (7, _), (8, _), (15, _), (16, _), (17, _), (18, _), (19, _), (20, _), (21, _), (22, _), (23, _), (24, _), (14, _), (25, _), (26, _), (9, _), (10, _), (27, _), (28, _), (29, _), (30, _), (31, _), (32, _), (33, _), (11, _), (12, _)] (fun i => []) (fun i => ([(n11, blk (rowE (hullF (af p m n false) i)) 23), (n12, blk (rowE (hullF (af p m n true) i)) 23)] ++ osL 3 g.1)) [(n7, _), (n6, _), (n3, _)] (fun i => (scalesP p (knownP p)).length - i) 0 (Nat.zero_le _) rfl (.c rfl .n) (.c rfl (.c rfl (.c rfl (.c rfl (.c rfl (.c rfl (.c rfl (.c rfl (.c rfl (.c rfl (.c rfl (.c rfl (.c rfl (.c rfl (.c rfl (.c rfl (.c rfl (.c rfl (.c rfl (.c rfl (.c rfl (.c rfl (.c rfl (.c rfl (.c rfl (.c rfl (.c rfl (.c rfl (.c rfl (.c rfl (.c rfl .n))))))))))))))))))))))))))))))) (.c 2 rfl (.c 2 rfl (.c 2 rfl (.c 1 rfl (.c 0 rfl .r))))) ?_
      rintro i hi
      refine kSeq ?_
      refine kSeq ?_
      have hgl : ((scalesP p (knownP p)).map rowI).length = (scalesP p (knownP p)).length := List.length_map _
      refine kRegion rfl ?_
      refine lV (yMove rfl) rfl rfl ?_
      refine lV (yMove rfl) rfl rfl ?_
      refine lV (yLen rfl S56) rfl rfl ?_
      refine lV (yLss rfl rfl) rfl rfl ?_
      refine lNil ?_
      refine kThen ?_
      refine split (t := 40) rfl (fun h40 => ?_) (fun h40 => ?_)
      · refine kIfT rfl ?_
        refine kSkip ?_
        refine kThen ?_
        refine kSeq ?_
        refine kBlock ?_
        refine kSeq ?_
        have hmem := getD_mem (l := scalesP p (knownP p)) (i := i) (by omega) 0
        refine kDrawE [(0, none), (1, none), (6, none), (7, none), (8, none), (11, none)] [] [0, 1, 2, 3, 4, 5, 6, 7, 8, 9, 10, 11] 1 hMix (by kernel_rfl) ?_
        refine .run rfl (yLoadA (vs := [_, _]) rfl A23 (cOwn 3 rfl rfl)) rfl rfl ?_
        refine .run rfl (yLoadA (vs := [_, _, _]) rfl A26 (cOwn 2 rfl rfl)) rfl rfl ?_
        refine .run rfl (yMove rfl) rfl rfl ?_
        refine .run rfl (yMove rfl) rfl rfl ?_
        refine .run rfl (yMove rfl) rfl rfl ?_
        refine .run rfl (yMove rfl) rfl rfl ?_
        refine .run rfl (yIndexS  rfl rfl S56 ((fun w hw => (OS.rowsE (f := rowI) 0 g.2 hw (.d 0 (.d 0 (.d 0 (.d 0 (.d 0 .r)))))).congr hgl fun i _ => rfl)) ((by omega))) rfl rfl ?_
        refine .run rfl (yLoad1 rfl O3 (cSl0 ((fun w hw => (OS.rowsE (f := rowI) 0 g.2 hw (.d 0 (.d 0 (.d 0 (.d 0 (.d 0 .r)))))).congr hgl fun i _ => rfl)) ((by omega)) rfl)) rfl rfl ?_
        refine .run rfl (yCall rfl (.c rfl (.c rfl (.c rfl (.c rfl (.c rfl .n))))) C71 (fun w hw => rbetween_any y p m n ((scalesP p (knownP p)).getD i 0) false w (hm.eff0 hw) hp hmn hmem)) rfl rfl ?_
        refine .run rfl (yMove rfl) rfl rfl ?_
        refine .run rfl (yEql rfl rfl) rfl rfl ?_
        refine .run rfl (yvSame (u := .agg (rowE (hullF (af p m n false) (i + 1))).toArray) (yCall rfl (.c rfl (.c rfl (.c rfl .n))) C61 (fun w hw => rhull_any (hullF (af p m n false) i) (af p m n false i) (decide ((i : Int) = 0)) w)) (by rw [hullF_succ])) rfl rfl ?_
        refine .done ?_
        refine effStep 12 [] (by kernel_rfl) closedSt (hLeft [0, 1, 6, 7, 8, 11] (by kernel_rfl) (.c (fun _ _ hs => hs.ef) (.c (fun _ _ hs => hs.ef) (.c (fun _ _ hs => hs.ef) (.c (fun _ _ hs => hs.ef) (.c (fun _ _ hs => hs.ef) (.c (fun _ _ hs => hs.ef) .n))))))) ?_
        refine .c ?_ .n
        refine effOne rfl (gNone rfl (fStoreL 3 rfl rfl rfl rfl K23 rfl (rfl))) ?_
        refine effDone closedSt (hLeft [] (by kernel_rfl) .n) (by kernel_rfl) ?_
        refine kThen ?_
        refine kDrawE [(0, none), (1, none), (6, none), (7, none), (8, none), (11, none)] [] [0, 1, 2, 3, 4, 5, 6, 7, 8, 9, 10, 11] 1 hMix (by kernel_rfl) ?_
        refine .run rfl (yLoadA (vs := [_, _]) rfl A23 (cOwn 4 rfl rfl)) rfl rfl ?_
        refine .run rfl (yLoadA (vs := [_, _, _]) rfl A26 (cOwn 2 rfl rfl)) rfl rfl ?_
        refine .run rfl (yMove rfl) rfl rfl ?_
        refine .run rfl (yMove rfl) rfl rfl ?_
        refine .run rfl (yMove rfl) rfl rfl ?_
        refine .run rfl (yMove rfl) rfl rfl ?_
        refine .run rfl (yIndexS  rfl rfl S56 ((fun w hw => (OS.rowsE (f := rowI) 0 g.2 hw (.d 0 (.d 0 (.d 0 (.d 0 (.d 0 .r)))))).congr hgl fun i _ => rfl)) ((by omega))) rfl rfl ?_
        refine .run rfl (yLoad1 rfl O3 (cSl0 ((fun w hw => (OS.rowsE (f := rowI) 0 g.2 hw (.d 0 (.d 0 (.d 0 (.d 0 (.d 0 .r)))))).congr hgl fun i _ => rfl)) ((by omega)) rfl)) rfl rfl ?_
        refine .run rfl (yCall rfl (.c rfl (.c rfl (.c rfl (.c rfl (.c rfl .n))))) C71 (fun w hw => rbetween_any y p m n ((scalesP p (knownP p)).getD i 0) true w (hm.eff0 hw) hp hmn hmem)) rfl rfl ?_
        refine .run rfl (yMove rfl) rfl rfl ?_
        refine .run rfl (yEql rfl rfl) rfl rfl ?_
        refine .run rfl (yvSame (u := .agg (rowE (hullF (af p m n true) (i + 1))).toArray) (yCall rfl (.c rfl (.c rfl (.c rfl .n))) C61 (fun w hw => rhull_any (hullF (af p m n true) i) (af p m n true i) (decide ((i : Int) = 0)) w)) (by rw [hullF_succ])) rfl rfl ?_
        refine .done ?_
        refine effStep 12 [] (by kernel_rfl) closedSt (hLeft [0, 1, 6, 7, 8, 11] (by kernel_rfl) (.c (fun _ _ hs => hs.ef) (.c (fun _ _ hs => hs.ef) (.c (fun _ _ hs => hs.ef) (.c (fun _ _ hs => hs.ef) (.c (fun _ _ hs => hs.ef) (.c (fun _ _ hs => hs.ef) .n))))))) ?_
        refine .c ?_ .n
        refine effOne rfl (gNone rfl (fStoreL 4 rfl rfl rfl rfl K23 rfl (rfl))) ?_
        refine effDone closedSt (hLeft [] (by kernel_rfl) .n) (by kernel_rfl) ?_
        refine kInN ?_
        refine kThen ?_
        refine kRegion rfl ?_
        refine lV (yMove rfl) rfl rfl ?_
        refine lV (yAdd rfl rfl (by omega)) rfl rfl ?_
        refine lV (yAssign rfl) rfl rfl ?_
        refine lNil ?_
        exact kRoundX (i + 1) (by omega) (by omega) rfl (.c rfl .n) (.c rfl (.c rfl (.c rfl (.c rfl (.c rfl (.c rfl (.c rfl (.c rfl (.c rfl (.c rfl (.c rfl (.c rfl (.c rfl (.c rfl (.c rfl (.c rfl (.c rfl (.c rfl (.c rfl (.c rfl (.c rfl (.c rfl (.c rfl (.c rfl (.c rfl (.c rfl (.c rfl (.c rfl (.c rfl (.c rfl (.c rfl .n))))))))))))))))))))))))))))))) (.c 0 rfl (.c 0 rfl (.c 0 rfl (.c 0 rfl (.c 0 rfl .r)))))
      · refine kIfF rfl ?_
        refine kExit ?_
        refine kThenX ?_
        refine kThenX ?_
        refine kInX ?_
        refine kThen ?_
        refine kSeq ?_
        refine kDrawE [(0, none), (1, some [0, 2, 3, 4])] [] [0, 1, 4] 2 hMix (by kernel_rfl) ?_
        refine .run rfl (yLoadA (vs := [_, _]) rfl A23 (cOwn 3 rfl rfl)) rfl rfl ?_
        refine .run rfl (yLoadA (vs := [_, _]) rfl A23 (cOwn 3 rfl rfl)) rfl rfl ?_
        refine .run rfl (yAssign rfl) rfl rfl ?_
        refine .done ?_
        refine effStep 2 [] (by kernel_rfl) closedSt (hLeft [0, 1] (by kernel_rfl) (.c (fun _ _ hs => hs.ef) (.c (fun _ _ hs => hs.ef.sub (.c 0 rfl (.c 1 rfl (.c 1 rfl (.c 1 rfl .n))))) .n))) ?_
        refine .c ?_ .n
        refine effOne rfl (gNone rfl (fStoreL 1 rfl rfl rfl rfl K23 rfl (rfl))) ?_
        refine effStep 3 [] (by kernel_rfl) closedSt (hLeft [1] (by kernel_rfl) (.c (fun _ _ hs => hs.ef.sub (.c 0 rfl (.c 1 rfl (.c 1 rfl (.c 1 rfl .n))))) .n)) ?_
        refine .c ?_ .n
        refine effOne rfl (gNone rfl (fStoreL 0 rfl rfl rfl rfl K23 rfl (rfl))) ?_
        refine effDone closedSt (hLeft [] (by kernel_rfl) .n) (by kernel_rfl) ?_
        refine kThen ?_
        refine kRet ?_
        refine fRet rfl (.cA (us := [_, _]) rfl A23 (cOwn 1 rfl rfl) (.cA (us := [_, _]) rfl A23 (cOwn 0 rfl rfl) (.t rfl .n))) (endRet ?_)
        obtain rfl : i = (scalesP p (knownP p)).length := by omega
        rfl
    · refine effOne rfl (opEx fun g => (gNone rfl (fV (yAssign rfl) rfl))) ?_
      refine effStep 12 [] (by kernel_rfl) (closedEx fun g => closedSt) (hLeft [] (by kernel_rfl) .n) ?_
      refine .c ?_ .n
      refine effOne rfl (opEx fun g => (gNone rfl (fV (yExtract rfl rfl) rfl))) ?_
      refine effStep 14 [] (by kernel_rfl) (closedEx fun g => closedSt) (hLeft [] (by kernel_rfl) .n) ?_
      refine .c ?_ .n
      refine effOne rfl (opEx fun g => (gNone rfl (fV (yAssign rfl) rfl))) ?_
      refine effDone (closedEx fun g => closedSt) (hLeft [] (by kernel_rfl) .n) (by kernel_rfl) ?_
      refine trEx fun g => ?_
      refine kThen ?_
      refine kSeq ?_
      refine kSeq ?_
      refine kRegion rfl ?_
      refine lV (yMove rfl) rfl rfl ?_
      refine lV (yNeq rfl rfl) rfl rfl ?_
      refine knownB (t := 28) (c := false) rfl (by simp) ?_
      refine lV (yMove rfl) rfl rfl ?_
      refine lGY rfl rfl rfl (oV (yMove rfl) rfl ?_)
      refine lGY rfl rfl rfl (oV (yMove rfl) rfl ?_)
      refine lGY rfl rfl rfl (oV (yEql rfl rfl) rfl ?_)
      refine knownN (t := 32) rfl (by omega) ?_
      refine lV (yPickF rfl rfl) rfl rfl ?_
      refine lNil ?_
      refine kThen ?_
      refine kIfF rfl ?_
      refine kSkip ?_
      refine kThen ?_
      refine kSeq ?_
      refine kRegion rfl ?_
      refine lE rfl ?_
      refine eAlloc Z23 fun n11 => ?_
      refine lE rfl ?_
      refine eAlloc Z23 fun n12 => ?_
      refine lNil ?_
      refine kThen ?_
      refine kSeq ?_
      refine kSeq ?_
      refine kRegion rfl ?_
      refine lV (yAssign rfl) rfl rfl ?_
      refine lNil ?_
      refine kThen ?_
      refine kBlock ?_
      refine kLoopX (ι := Nat) (fun i => i ≤ (scalesP p (knownP p)).length) (fun i => [(13, i64 (i : Nat))]) [(0, _), (1, _), (2, _), (3, _), (6, _), (7, _), (8, _), (15, _), (16, _), (17, _), (18, _), (19, _), (20, _), (21, _), (22, _), (23, _), (24, _), (14, _), (25, _), (9, _), (26, _), (10, _), (27, _), (28, _), (29, _), (30, _), (31, _), (32, _), (33, _), (11, _), (12, _)] (fun i => []) (fun i => ([(n11, blk (rowE (hullF (af p m n false) i)) 23), (n12, blk (rowE (hullF (af p m n true) i)) 23)] ++ osL 3 g.1)) [(n7, _), (n6, _), (n3, _)] (fun i => (scalesP p (knownP p)).length - i) 0 (Nat.zero_le _) rfl (.c rfl .n) (.c rfl (.c rfl (.c rfl (.c rfl (.c rfl (.c rfl (.c rfl (.c rfl (.c rfl (.c rfl (.c rfl (.c rfl (.c rfl (.c rfl (.c rfl (.c rfl (.c rfl (.c rfl (.c rfl (.c rfl (.c rfl (.c rfl (.c rfl (.c rfl (.c rfl (.c rfl (.c rfl (.c rfl (.c rfl (.c rfl (.c rfl .n))))))))))))))))))))))))))))))) (.c 2 rfl (.c 2 rfl (.c 2 rfl (.c 1 rfl (.c 0 rfl .r))))) ?_
      rintro i hi
      refine kSeq ?_
      refine kSeq ?_
      have hgl : ((scalesP p (knownP p)).map rowI).length = (scalesP p (knownP p)).length := List.length_map _
      refine kRegion rfl ?_
      refine lV (yMove rfl) rfl rfl ?_
      refine lV (yMove rfl) rfl rfl ?_
      refine lV (yLen rfl S56) rfl rfl ?_
      refine lV (yLss rfl rfl) rfl rfl ?_
      refine lNil ?_
      refine kThen ?_
      refine split (t := 40) rfl (fun h40 => ?_) (fun h40 => ?_)
      · refine kIfT rfl ?_
        refine kSkip ?_
        refine kThen ?_
        refine kSeq ?_
        refine kBlock ?_
        refine kSeq ?_
        have hmem := getD_mem (l := scalesP p (knownP p)) (i := i) (by omega) 0
        refine kDrawE [(0, none), (1, none), (6, none), (7, none), (8, none), (11, none)] [] [0, 1, 2, 3, 4, 5, 6, 7, 8, 9, 10, 11] 1 hMix (by kernel_rfl) ?_
        refine .run rfl (yLoadA (vs := [_, _]) rfl A23 (cOwn 3 rfl rfl)) rfl rfl ?_
        refine .run rfl (yLoadA (vs := [_, _, _]) rfl A26 (cOwn 2 rfl rfl)) rfl rfl ?_
        refine .run rfl (yMove rfl) rfl rfl ?_
        refine .run rfl (yMove rfl) rfl rfl ?_
        refine .run rfl (yMove rfl) rfl rfl ?_
        refine .run rfl (yMove rfl) rfl rfl ?_
        refine .run rfl (yIndexS  rfl rfl S56 ((fun w hw => (OS.rowsE (f := rowI) 0 g.2 hw (.d 0 (.d 0 (.d 0 (.d 0 (.d 0 .r)))))).congr hgl fun i _ => rfl)) ((by omega))) rfl rfl ?_
        refine .run rfl (yLoad1 rfl O3 (cSl0 ((fun w hw => (OS.rowsE (f := rowI) 0 g.2 hw (.d 0 (.d 0 (.d 0 (.d 0 (.d 0 .r)))))).congr hgl fun i _ => rfl)) ((by omega)) rfl)) rfl rfl ?_
        refine .run rfl (yCall rfl (.c rfl (.c rfl (.c rfl (.c rfl (.c rfl .n))))) C71 (fun w hw => rbetween_any y p m n ((scalesP p (knownP p)).getD i 0) false w (hm.eff0 hw) hp hmn hmem)) rfl rfl ?_
        refine .run rfl (yMove rfl) rfl rfl ?_
        refine .run rfl (yEql rfl rfl) rfl rfl ?_
        refine .run rfl (yvSame (u := .agg (rowE (hullF (af p m n false) (i + 1))).toArray) (yCall rfl (.c rfl (.c rfl (.c rfl .n))) C61 (fun w hw => rhull_any (hullF (af p m n false) i) (af p m n false i) (decide ((i : Int) = 0)) w)) (by rw [hullF_succ])) rfl rfl ?_
        refine .done ?_
        refine effStep 12 [] (by kernel_rfl) closedSt (hLeft [0, 1, 6, 7, 8, 11] (by kernel_rfl) (.c (fun _ _ hs => hs.ef) (.c (fun _ _ hs => hs.ef) (.c (fun _ _ hs => hs.ef) (.c (fun _ _ hs => hs.ef) (.c (fun _ _ hs => hs.ef) (.c (fun _ _ hs => hs.ef) .n))))))) ?_
        refine .c ?_ .n
        refine effOne rfl (gNone rfl (fStoreL 3 rfl rfl rfl rfl K23 rfl (rfl))) ?_
        refine effDone closedSt (hLeft [] (by kernel_rfl) .n) (by kernel_rfl) ?_
        refine kThen ?_
        refine kDrawE [(0, none), (1, none), (6, none), (7, none), (8, none), (11, none)] [] [0, 1, 2, 3, 4, 5, 6, 7, 8, 9, 10, 11] 1 hMix (by kernel_rfl) ?_
        refine .run rfl (yLoadA (vs := [_, _]) rfl A23 (cOwn 4 rfl rfl)) rfl rfl ?_
        refine .run rfl (yLoadA (vs := [_, _, _]) rfl A26 (cOwn 2 rfl rfl)) rfl rfl ?_
        refine .run rfl (yMove rfl) rfl rfl ?_
        refine .run rfl (yMove rfl) rfl rfl ?_
        refine .run rfl (yMove rfl) rfl rfl ?_
        refine .run rfl (yMove rfl) rfl rfl ?_
        refine .run rfl (yIndexS  rfl rfl S56 ((fun w hw => (OS.rowsE (f := rowI) 0 g.2 hw (.d 0 (.d 0 (.d 0 (.d 0 (.d 0 .r)))))).congr hgl fun i _ => rfl)) ((by omega))) rfl rfl ?_
        refine .run rfl (yLoad1 rfl O3 (cSl0 ((fun w hw => (OS.rowsE (f := rowI) 0 g.2 hw (.d 0 (.d 0 (.d 0 (.d 0 (.d 0 .r)))))).congr hgl fun i _ => rfl)) ((by omega)) rfl)) rfl rfl ?_
        refine .run rfl (yCall rfl (.c rfl (.c rfl (.c rfl (.c rfl (.c rfl .n))))) C71 (fun w hw => rbetween_any y p m n ((scalesP p (knownP p)).getD i 0) true w (hm.eff0 hw) hp hmn hmem)) rfl rfl ?_
        refine .run rfl (yMove rfl) rfl rfl ?_
        refine .run rfl (yEql rfl rfl) rfl rfl ?_
        refine .run rfl (yvSame (u := .agg (rowE (hullF (af p m n true) (i + 1))).toArray) (yCall rfl (.c rfl (.c rfl (.c rfl .n))) C61 (fun w hw => rhull_any (hullF (af p m n true) i) (af p m n true i) (decide ((i : Int) = 0)) w)) (by rw [hullF_succ])) rfl rfl ?_
        refine .done ?_
        refine effStep 12 [] (by kernel_rfl) closedSt (hLeft [0, 1, 6, 7, 8, 11] (by kernel_rfl) (.c (fun _ _ hs => hs.ef) (.c (fun _ _ hs => hs.ef) (.c (fun _ _ hs => hs.ef) (.c (fun _ _ hs => hs.ef) (.c (fun _ _ hs => hs.ef) (.c (fun _ _ hs => hs.ef) .n))))))) ?_
        refine .c ?_ .n
        refine effOne rfl (gNone rfl (fStoreL 4 rfl rfl rfl rfl K23 rfl (rfl))) ?_
        refine effDone closedSt (hLeft [] (by kernel_rfl) .n) (by kernel_rfl) ?_
        refine kInN ?_
        refine kThen ?_
        refine kRegion rfl ?_
        refine lV (yMove rfl) rfl rfl ?_
        refine lV (yAdd rfl rfl (by omega)) rfl rfl ?_
        refine lV (yAssign rfl) rfl rfl ?_
        refine lNil ?_
        exact kRoundX (i + 1) (by omega) (by omega) rfl (.c rfl .n) (.c rfl (.c rfl (.c rfl (.c rfl (.c rfl (.c rfl (.c rfl (.c rfl (.c rfl (.c rfl (.c rfl (.c rfl (.c rfl (.c rfl (.c rfl (.c rfl (.c rfl (.c rfl (.c rfl (.c rfl (.c rfl (.c rfl (.c rfl (.c rfl (.c rfl (.c rfl (.c rfl (.c rfl (.c rfl (.c rfl (.c rfl .n))))))))))))))))))))))))))))))) (.c 0 rfl (.c 0 rfl (.c 0 rfl (.c 0 rfl (.c 0 rfl .r)))))
      · refine kIfF rfl ?_
        refine kExit ?_
        refine kThenX ?_
        refine kThenX ?_
        refine kInX ?_
        refine kThen ?_
        refine kSeq ?_
        refine kDrawE [(0, none), (1, some [0, 2, 3, 4])] [] [0, 1, 4] 2 hMix (by kernel_rfl) ?_
        refine .run rfl (yLoadA (vs := [_, _]) rfl A23 (cOwn 3 rfl rfl)) rfl rfl ?_
        refine .run rfl (yLoadA (vs := [_, _]) rfl A23 (cOwn 3 rfl rfl)) rfl rfl ?_
        refine .run rfl (yAssign rfl) rfl rfl ?_
        refine .done ?_
        refine effStep 2 [] (by kernel_rfl) closedSt (hLeft [0, 1] (by kernel_rfl) (.c (fun _ _ hs => hs.ef) (.c (fun _ _ hs => hs.ef.sub (.c 0 rfl (.c 1 rfl (.c 1 rfl (.c 1 rfl .n))))) .n))) ?_
        refine .c ?_ .n
        refine effOne rfl (gNone rfl (fStoreL 1 rfl rfl rfl rfl K23 rfl (rfl))) ?_
        refine effStep 3 [] (by kernel_rfl) closedSt (hLeft [1] (by kernel_rfl) (.c (fun _ _ hs => hs.ef.sub (.c 0 rfl (.c 1 rfl (.c 1 rfl (.c 1 rfl .n))))) .n)) ?_
        refine .c ?_ .n
        refine effOne rfl (gNone rfl (fStoreL 0 rfl rfl rfl rfl K23 rfl (rfl))) ?_
        refine effDone closedSt (hLeft [] (by kernel_rfl) .n) (by kernel_rfl) ?_
        refine kThen ?_
        refine kRet ?_
        refine fRet rfl (.cA (us := [_, _]) rfl A23 (cOwn 1 rfl rfl) (.cA (us := [_, _]) rfl A23 (cOwn 0 rfl rfl) (.t rfl .n))) (endRet ?_)
        obtain rfl : i = (scalesP p (knownP p)).length := by omega
        rfl
  · refine effOne rfl (opEx fun g => (gNone rfl (fV (yExtract rfl rfl) rfl))) ?_
    refine effStep 11 [] (by kernel_rfl) (closedEx fun g => closedSt) (hLeft [1] (by kernel_rfl) (.c (fun _ _ ⟨g, hs⟩ => hs.ef.sub (.c 0 rfl (.c 0 rfl (.c 0 rfl .n)))) .n)) ?_
    refine .c ?_ .n
    refine effOne rfl (opEx fun g => (gNone rfl (fV (yExtract rfl rfl) rfl))) ?_
    refine effStep 13 [] (by kernel_rfl) (closedEx fun g => closedSt) (hLeft [1] (by kernel_rfl) (.c (fun _ _ ⟨g, hs⟩ => hs.ef.sub (.c 0 rfl (.c 0 rfl (.c 0 rfl .n)))) .n)) ?_
    refine .c ?_ .n
    refine effOne rfl (opEx fun g => (gNone rfl (fV (yAssign rfl) rfl))) ?_
    refine effStep 14 [] (by kernel_rfl) (closedEx fun g => closedSt) (hLeft [] (by kernel_rfl) .n) ?_
    refine .c ?_ .n
    refine effOne rfl (opEx fun g => (gNone rfl (fV (yAssign rfl) rfl))) ?_
    refine effDone (closedEx fun g => closedSt) (hLeft [] (by kernel_rfl) .n) (by kernel_rfl) ?_
    refine trEx fun g => ?_
    refine kThen ?_
    refine kSeq ?_
    refine kSeq ?_
    refine kRegion rfl ?_
    refine lV (yMove rfl) rfl rfl ?_
    refine lV (yNeq rfl rfl) rfl rfl ?_
    refine knownB (t := 28) (c := false) rfl (by simp) ?_
    refine lV (yMove rfl) rfl rfl ?_
    refine lGY rfl rfl rfl (oV (yMove rfl) rfl ?_)
    refine lGY rfl rfl rfl (oV (yMove rfl) rfl ?_)
    refine lGY rfl rfl rfl (oV (yEql rfl rfl) rfl ?_)
    refine knownN (t := 32) rfl (by omega) ?_
    refine lV (yPickF rfl rfl) rfl rfl ?_
    refine lNil ?_
    refine kThen ?_
    refine kIfF rfl ?_
    refine kSkip ?_
    refine kThen ?_
    refine kSeq ?_
    refine kRegion rfl ?_
    refine lE rfl ?_
    refine eAlloc Z23 fun n11 => ?_
    refine lE rfl ?_
    refine eAlloc Z23 fun n12 => ?_
    refine lNil ?_
    refine kThen ?_
    refine kSeq ?_
    refine kSeq ?_
    refine kRegion rfl ?_
    refine lV (yAssign rfl) rfl rfl ?_
    refine lNil ?_
    refine kThen ?_
    refine kBlock ?_
    refine kLoopX (ι := Nat) (fun i => i ≤ (scalesP p (knownP p)).length) (fun i => [(13, i64 (i : Nat))]) [(0, _), (1, _), (2, _), (3, _), (6, _), (7, _), (8, _), (15, _), (16, _), (17, _), (18, _), (19, _), (20, _), (21, _), (22, _), (23, _), (24, _), (14, _), (26, _), (25, _), (9, _), (10, _), (27, _), (28, _), (29, _), (30, _), (31, _), (32, _), (33, _), (11, _), (12, _)] (fun i => []) (fun i => ([(n11, blk (rowE (hullF (af p m n false) i)) 23), (n12, blk (rowE (hullF (af p m n true) i)) 23)] ++ osL 3 g.1)) [(n7, _), (n6, _), (n3, _)] (fun i => (scalesP p (knownP p)).length - i) 0 (Nat.zero_le _) rfl (.c rfl .n) (.c rfl (.c rfl (.c rfl (.c rfl (.c rfl (.c rfl (.c rfl (.c rfl (.c rfl (.c rfl (.c rfl (.c rfl (.c rfl (.c rfl (.c rfl (.c rfl (.c rfl (.c rfl (.c rfl (.c rfl (.c rfl (.c rfl (.c rfl (.c rfl (.c rfl (.c rfl (.c rfl (.c rfl (.c rfl (.c rfl (.c rfl .n))))))))))))))))))))))))))))))) (.c 2 rfl (.c 2 rfl (.c 2 rfl (.c 1 rfl (.c 0 rfl .r))))) ?_
    rintro i hi
    refine kSeq ?_
    refine kSeq ?_
    have hgl : ((scalesP p (knownP p)).map rowI).length = (scalesP p (knownP p)).length := List.length_map _
    refine kRegion rfl ?_
    refine lV (yMove rfl) rfl rfl ?_
    refine lV (yMove rfl) rfl rfl ?_
    refine lV (yLen rfl S56) rfl rfl ?_
    refine lV (yLss rfl rfl) rfl rfl ?_
    refine lNil ?_
    refine kThen ?_
    refine split (t := 40) rfl (fun h40 => ?_) (fun h40 => ?_)
    · refine kIfT rfl ?_
      refine kSkip ?_
      refine kThen ?_
      refine kSeq ?_
      refine kBlock ?_
      refine kSeq ?_
      have hmem := getD_mem (l := scalesP p (knownP p)) (i := i) (by omega) 0
      refine kDrawE [(0, none), (1, none), (6, none), (7, none), (8, none), (11, none)] [] [0, 1, 2, 3, 4, 5, 6, 7, 8, 9, 10, 11] 1 hMix (by kernel_rfl) ?_
      refine .run rfl (yLoadA (vs := [_, _]) rfl A23 (cOwn 3 rfl rfl)) rfl rfl ?_
      refine .run rfl (yLoadA (vs := [_, _, _]) rfl A26 (cOwn 2 rfl rfl)) rfl rfl ?_
      refine .run rfl (yMove rfl) rfl rfl ?_
      refine .run rfl (yMove rfl) rfl rfl ?_
      refine .run rfl (yMove rfl) rfl rfl ?_
      refine .run rfl (yMove rfl) rfl rfl ?_
      refine .run rfl (yIndexS  rfl rfl S56 ((fun w hw => (OS.rowsE (f := rowI) 0 g.2 hw (.d 0 (.d 0 (.d 0 (.d 0 (.d 0 .r)))))).congr hgl fun i _ => rfl)) ((by omega))) rfl rfl ?_
      refine .run rfl (yLoad1 rfl O3 (cSl0 ((fun w hw => (OS.rowsE (f := rowI) 0 g.2 hw (.d 0 (.d 0 (.d 0 (.d 0 (.d 0 .r)))))).congr hgl fun i _ => rfl)) ((by omega)) rfl)) rfl rfl ?_
      refine .run rfl (yCall rfl (.c rfl (.c rfl (.c rfl (.c rfl (.c rfl .n))))) C71 (fun w hw => rbetween_any y p m n ((scalesP p (knownP p)).getD i 0) false w (hm.eff0 hw) hp hmn hmem)) rfl rfl ?_
      refine .run rfl (yMove rfl) rfl rfl ?_
      refine .run rfl (yEql rfl rfl) rfl rfl ?_
      refine .run rfl (yvSame (u := .agg (rowE (hullF (af p m n false) (i + 1))).toArray) (yCall rfl (.c rfl (.c rfl (.c rfl .n))) C61 (fun w hw => rhull_any (hullF (af p m n false) i) (af p m n false i) (decide ((i : Int) = 0)) w)) (by rw [hullF_succ])) rfl rfl ?_
      refine .done ?_
      refine effStep 12 [] (by kernel_rfl) closedSt (hLeft [0, 1, 6, 7, 8, 11] (by kernel_rfl) (.c (fun _ _ hs => hs.ef) (.c (fun _ _ hs => hs.ef) (.c (fun _ _ hs => hs.ef) (.c (fun _ _ hs => hs.ef) (.c (fun _ _ hs => hs.ef) (.c (fun _ _ hs => hs.ef) .n))))))) ?_
      refine .c ?_ .n
      refine effOne rfl (gNone rfl (fStoreL 3 rfl rfl rfl rfl K23 rfl (rfl))) ?_
      refine effDone closedSt (hLeft [] (by kernel_rfl) .n) (by kernel_rfl) ?_
      refine kThen ?_
      refine kDrawE [(0, none), (1, none), (6, none), (7, none), (8, none), (11, none)] [] [0, 1, 2, 3, 4, 5, 6, 7, 8, 9, 10, 11] 1 hMix (by kernel_rfl) ?_
      refine .run rfl (yLoadA (vs := [_, _]) rfl A23 (cOwn 4 rfl rfl)) rfl rfl ?_
      refine .run rfl (yLoadA (vs := [_, _, _]) rfl A26 (cOwn 2 rfl rfl)) rfl rfl ?_
      refine .run rfl (yMove rfl) rfl rfl ?_
      refine .run rfl (yMove rfl) rfl rfl ?_
      refine .run rfl (yMove rfl) rfl rfl ?_
      refine .run rfl (yMove rfl) rfl rfl ?_
      refine .run rfl (yIndexS  rfl rfl S56 ((fun w hw => (OS.rowsE (f := rowI) 0 g.2 hw (.d 0 (.d 0 (.d 0 (.d 0 (.d 0 .r)))))).congr hgl fun i _ => rfl)) ((by omega))) rfl rfl ?_
      refine .run rfl (yLoad1 rfl O3 (cSl0 ((fun w hw => (OS.rowsE (f := rowI) 0 g.2 hw (.d 0 (.d 0 (.d 0 (.d 0 (.d 0 .r)))))).congr hgl fun i _ => rfl)) ((by omega)) rfl)) rfl rfl ?_
      refine .run rfl (yCall rfl (.c rfl (.c rfl (.c rfl (.c rfl (.c rfl .n))))) C71 (fun w hw => rbetween_any y p m n ((scalesP p (knownP p)).getD i 0) true w (hm.eff0 hw) hp hmn hmem)) rfl rfl ?_
      refine .run rfl (yMove rfl) rfl rfl ?_
      refine .run rfl (yEql rfl rfl) rfl rfl ?_
      refine .run rfl (yvSame (u := .agg (rowE (hullF (af p m n true) (i + 1))).toArray) (yCall rfl (.c rfl (.c rfl (.c rfl .n))) C61 (fun w hw => rhull_any (hullF (af p m n true) i) (af p m n true i) (decide ((i : Int) = 0)) w)) (by rw [hullF_succ])) rfl rfl ?_
      refine .done ?_
      refine effStep 12 [] (by kernel_rfl) closedSt (hLeft [0, 1, 6, 7, 8, 11] (by kernel_rfl) (.c (fun _ _ hs => hs.ef) (.c (fun _ _ hs => hs.ef) (.c (fun _ _ hs => hs.ef) (.c (fun _ _ hs => hs.ef) (.c (fun _ _ hs => hs.ef) (.c (fun _ _ hs => hs.ef) .n))))))) ?_
      refine .c ?_ .n
      refine effOne rfl (gNone rfl (fStoreL 4 rfl rfl rfl rfl K23 rfl (rfl))) ?_
      refine effDone closedSt (hLeft [] (by kernel_rfl) .n) (by kernel_rfl) ?_
      refine kInN ?_
      refine kThen ?_
      refine kRegion rfl ?_
      refine lV (yMove rfl) rfl rfl ?_
      refine lV (yAdd rfl rfl (by omega)) rfl rfl ?_
      refine lV (yAssign rfl) rfl rfl ?_
      refine lNil ?_
      exact kRoundX (i + 1) (by omega) (by omega) rfl (.c rfl .n) (.c rfl (.c rfl (.c rfl (.c rfl (.c rfl (.c rfl (.c rfl (.c rfl (.c rfl (.c rfl (.c rfl (.c rfl (.c rfl (.c rfl (.c rfl (.c rfl (.c rfl (.c rfl (.c rfl (.c rfl (.c rfl (.c rfl (.c rfl (.c rfl (.c rfl (.c rfl (.c rfl (.c rfl (.c rfl (.c rfl (.c rfl .n))))))))))))))))))))))))))))))) (.c 0 rfl (.c 0 rfl (.c 0 rfl (.c 0 rfl (.c 0 rfl .r)))))
    · refine kIfF rfl ?_
      refine kExit ?_
      refine kThenX ?_
      refine kThenX ?_
      refine kInX ?_
      refine kThen ?_
      refine kSeq ?_
      refine kDrawE [(0, none), (1, some [0, 2, 3, 4])] [] [0, 1, 4] 2 hMix (by kernel_rfl) ?_
      refine .run rfl (yLoadA (vs := [_, _]) rfl A23 (cOwn 3 rfl rfl)) rfl rfl ?_
      refine .run rfl (yLoadA (vs := [_, _]) rfl A23 (cOwn 3 rfl rfl)) rfl rfl ?_
      refine .run rfl (yAssign rfl) rfl rfl ?_
      refine .done ?_
      refine effStep 2 [] (by kernel_rfl) closedSt (hLeft [0, 1] (by kernel_rfl) (.c (fun _ _ hs => hs.ef) (.c (fun _ _ hs => hs.ef.sub (.c 0 rfl (.c 1 rfl (.c 1 rfl (.c 1 rfl .n))))) .n))) ?_
      refine .c ?_ .n
      refine effOne rfl (gNone rfl (fStoreL 1 rfl rfl rfl rfl K23 rfl (rfl))) ?_
      refine effStep 3 [] (by kernel_rfl) closedSt (hLeft [1] (by kernel_rfl) (.c (fun _ _ hs => hs.ef.sub (.c 0 rfl (.c 1 rfl (.c 1 rfl (.c 1 rfl .n))))) .n)) ?_
      refine .c ?_ .n
      refine effOne rfl (gNone rfl (fStoreL 0 rfl rfl rfl rfl K23 rfl (rfl))) ?_
      refine effDone closedSt (hLeft [] (by kernel_rfl) .n) (by kernel_rfl) ?_
      refine kThen ?_
      refine kRet ?_
      refine fRet rfl (.cA (us := [_, _]) rfl A23 (cOwn 1 rfl rfl) (.cA (us := [_, _]) rfl A23 (cOwn 0 rfl rfl) (.t rfl .n))) (endRet ?_)
      obtain rfl : i = (scalesP p (knownP p)).length := by omega
      rfl
theorem rapart_any (y : Option Addr × Nat) (p : Plt) (m n : Int) (w : World) (hm : InP w y p) (hL : p.st.length ≤ 30) : Calls Try.prog 22 [.agg (pltC y p).toArray, i64 m, i64 n].toArray w (Ret w (outC2 (apartE p m n))) := by
  by_cases h : truthE p (isStarB p m && isStarB p n) = 0
  · obtain ⟨hp, hb, hs⟩ := truthE_ok h
    rw [Bool.and_eq_true] at hb
    have h1 := of_decide_eq_true hb.1
    have h2 := of_decide_eq_true hb.2
    obtain ⟨k, rfl⟩ : ∃ k : Nat, m = (k : Int) := ⟨m.toNat, by omega⟩
    obtain ⟨j, rfl⟩ : ∃ k : Nat, n = (k : Int) := ⟨n.toNat, by omega⟩
    by_cases he : k = j
    · subst he
      have e : apartE p (k : Nat) (k : Nat) = ((0, 0), (0, 0), 0) := by unfold apartE; rw [if_neg (not_not_intro h), if_pos rfl]
      rw [e]
      exact rapart_same y p k w hm hp (by omega) hs
    · have e : apartE p (k : Nat) (j : Nat) = (hullF (af p k j false) (scalesP p (knownP p)).length, hullF (af p k j true) (scalesP p (knownP p)).length, 0) := by
        unfold apartE
        rw [if_neg (not_not_intro h), if_neg (by omega), af_eq hp ⟨by omega, by omega⟩ false hs, af_eq hp ⟨by omega, by omega⟩ true hs]
        rfl
      rw [e]
      exact rapart_ok y p k j w hm hp ⟨by omega, by omega⟩ he hs
  · exact rapart_bad y p m n w hm hL h
end Go.Proofs.Ytlcdohhhhlhpmaa
