/-
  Walks: PlateTurned.
-/
import Derived.Test.YtlcdohhhhlhpmaaHa
import Derived.Test.YtlcdohhhhlhpmaaFb
namespace Go.Proofs.Ytlcdohhhhlhpmaa
open ZW

section
variable {P : Program}
theorem eqAll_agg {d : Nat} {xs ys : Array Value} {T : TypeId} {o k : Nat} {r : List (TypeId × Nat)} {p q : Prop} [Decidable p] [Decidable q] {w : World} (hT : aggT P T = some k)
    (hq : (Op.equalIn (d + 1) T (.agg (xs.extract o (o + k))) (.agg (ys.extract o (o + k)))).run P w = .ok (decide q) w) (h : (eqAll (d + 1) xs ys r).run P w = .ok (decide p) w) :
    (eqAll (d + 1) xs ys ((T, o) :: r)).run P w = .ok (decide (q ∧ p)) w := by
  simp only [eqAll, Sem.run_bind, run_part_agg hT, Result.andThen_ok, hq, Sem.run_ite, h, Sem.run_pure]
  by_cases hab : q <;> simp [hab]
end
theorem q23in {a0 a1 b0 b1 : Int} (d : Nat) (w : World) : (Op.equalIn (d + 2) 23 (.agg [i64 a0, i64 a1].toArray) (.agg [i64 b0, i64 b1].toArray)).run Try.prog w = .ok (decide (a0 = b0 ∧ a1 = b1)) w := by
  rw [run_equalIn_fs E23]
  refine Eq.trans (eqAll_int O3 U3 rfl rfl (eqAll_int O3 U3 rfl rfl (eqAll_nil))) ?_
  simp only [and_true]
theorem E58 : eqFs Try.prog 58 = some [(23, 0), (23, 2), (4, 4), (23, 5), (23, 7)] := by kernel_rfl
theorem Q58 {a0 a1 a2 a3 : Int} {a4 : Bool} {a5 a6 a7 a8 b0 b1 b2 b3 : Int} {b4 : Bool} {b5 b6 b7 b8 : Int} (w : World) :
    (Op.equal 58 (.agg [i64 a0, i64 a1, i64 a2, i64 a3, .bool a4, i64 a5, i64 a6, i64 a7, i64 a8].toArray) (.agg [i64 b0, i64 b1, i64 b2, i64 b3, .bool b4, i64 b5, i64 b6, i64 b7, i64 b8].toArray)).run Try.prog w
      = .ok (decide ((a0 = b0 ∧ a1 = b1) ∧ (a2 = b2 ∧ a3 = b3) ∧ a4 = b4 ∧ (a5 = b5 ∧ a6 = b6) ∧ (a7 = b7 ∧ a8 = b8))) w := by
  rw [equal_step, run_equalIn_fs E58]
  refine Eq.trans (eqAll_agg A23 (q23in 9997 w) (eqAll_agg A23 (q23in 9997 w) (eqAll_bool O4 U4 rfl rfl (eqAll_agg A23 (q23in 9997 w) (eqAll_agg A23 (q23in 9997 w) (eqAll_nil)))))) ?_
  simp only [and_true]
def revL (p : Plt) (n : Nat) : List StarV := p.st.reverse.take n
theorem revL_len {p : Plt} {n : Nat} (h : n ≤ p.st.length) : (revL p n).length = n := by unfold revL; rw [List.length_take, List.length_reverse]; omega
theorem revL_succ {p : Plt} {n : Nat} (h : n < p.st.length) : revL p (n + 1) = revL p n ++ [p.st.getD (p.st.length - 1 - n) star0] := by
  unfold revL
  rw [List.take_succ_eq_append_getElem (by rw [List.length_reverse]; exact h), List.getElem_reverse, List.getElem_eq_getD star0]
theorem revL_all (p : Plt) : revL p p.st.length = (revP p).st := by unfold revL revP; rw [← List.length_reverse, List.take_length]
theorem wide_nn {p : Plt} (hp : PltOk p) (hne : scalesP p (knownP p) ≠ []) {n : Nat} (hn : n < p.st.length) : 0 ≤ wideP p n := by
  obtain ⟨s, hs⟩ := List.exists_mem_of_ne_nil _ hne
  have key : ∀ d, (starH p n d).lo ≤ (starH p n d).hi := fun d => by
    have h1 := (starH_ends hp hn d hne).2.2 s hs
    have h2 := place_le hp hn d hs
    omega
  have a := key false
  have b := key true
  unfold wideP
  omega
/-- What PlateTurned asks of the star that is known least exactly. -/
structure PoorL (p : Plt) (z : Nat) (r : (Int × Int) × (Int × Int) × Int) (q : Int × Int × Int) : Prop where
  e : r.2.2 = q.2.2
  w : q.2.2 = 0 → r.1.2 - r.1.1 + r.2.1.2 - r.2.1.1 ≤ q.2.1 ∧ (r.1.2 - r.1.1 + r.2.1.2 - r.2.1.1 = q.2.1 → q.1 ≤ z) ∧ ((z : Int) = q.1 → r.1.2 - r.1.1 + r.2.1.2 - r.2.1.1 = q.2.1)
theorem poorL {p : Plt} (hp : PltOk p) {z : Nat} (hz : z < p.st.length) : PoorL p z (starE p (z : Nat)) (poorE p) := by
  have hb : isStarB p (z : Nat) = true := decide_eq_true (by omega)
  by_cases h : toldE p true = 0
  · have hs := (truthE_ok (toldE_ok h).1).2.2
    have e1 := star_eq (n := z) (p := p) (by rw [hb]; exact h)
    have e2 : poorE p = ((poorT p p.st.length).1, (poorT p p.st.length).2, 0) := by unfold poorE; rw [if_neg (not_not_intro h)]
    rw [e1, e2]
    refine ⟨rfl, fun _ => ?_⟩
    obtain ⟨h1, h2⟩ := poorT_spec p p.st.length
    have h3 := h1 z hz
    have h4 := wide_nn hp hs hz
    have hw : (starH p z false).hi - (starH p z false).lo + (starH p z true).hi - (starH p z true).lo = wideP p z := rfl
    dsimp only
    rw [hw]
    rcases h2 with ⟨_, h5⟩ | ⟨k, hk, e, h5⟩
    · have := h5 z hz; omega
    · rw [e] at h3 ⊢
      dsimp only at h3 ⊢
      refine ⟨h3, fun he => ?_, fun he => ?_⟩
      · rcases Nat.lt_or_ge z k with h6 | h6
        · have := h5 z h6; omega
        · omega
      · obtain rfl : z = k := by omega
        rfl
  · have e1 : starE p (z : Nat) = ((0, 0), (0, 0), toldE p true) := by unfold starE; rw [hb, if_pos h]
    have e2 : poorE p = (0, 0, toldE p true) := by unfold poorE; rw [if_pos h]
    rw [e1, e2]
    exact ⟨rfl, fun h0 => absurd h0 h⟩
theorem poor_end {p : Plt} (hp : PltOk p) : ((poorE p).2.2 = 0 → 0 ≤ (poorE p).1 ∧ (poorE p).1 < p.st.length) ∧ ((poorE p).2.2 ≠ 0 → (poorE p).1 = 0 ∧ (poorE p).2.1 = 0) := by
  by_cases h : toldE p true = 0
  · have hs := (truthE_ok (toldE_ok h).1).2.2
    have hk := (toldE_ok h).2
    have e2 : poorE p = ((poorT p p.st.length).1, (poorT p p.st.length).2, 0) := by unfold poorE; rw [if_neg (not_not_intro h)]
    rw [e2]
    refine ⟨fun _ => ?_, fun h0 => absurd rfl h0⟩
    obtain ⟨h1, h2⟩ := poorT_spec p p.st.length
    rcases h2 with ⟨_, h5⟩ | ⟨k, hk, e, _⟩
    · refine absurd (Nat.eq_of_testBit_eq fun i => ?_) hk
      rw [Nat.zero_testBit]
      cases hb : (knownP p).testBit i with
      | false => rfl
      | true =>
        have h6 := (known_ok p i hb).1
        have := h5 i h6
        have := wide_nn hp hs h6
        omega
    · rw [e]; dsimp only; omega
  · have e2 : poorE p = (0, 0, toldE p true) := by unfold poorE; rw [if_pos h]
    rw [e2]
    exact ⟨fun h0 => absurd h0 h, fun _ => ⟨rfl, rfl⟩⟩
theorem turn_wrap {n : Nat} {a : Int} (hn : n ≤ 10) (ha : In64 a) : (0 ≤ a ∧ a ≤ n - 1 → IntKind.i64.wrap ((n : Int) - 1 - a) = n - 1 - a) ∧ (0 ≤ a ∧ a ≤ n - 1 ↔ 0 ≤ IntKind.i64.wrap ((n : Int) - 1 - a) ∧ IntKind.i64.wrap ((n : Int) - 1 - a) ≤ n - 1) := by
  unfold In64 at ha
  rw [IntKind.wrap_i64]
  omega
theorem turn_star {p : Plt} (hp : PltOk p) {a : Int} (ha : In64 a) : starE (revP p) (IntKind.i64.wrap ((p.st.length : Int) - 1 - a)) = starE p a := by
  have h := turn_wrap hp.n ha
  refine rev_star hp (fun hb => ?_) ?_
  · exact h.1 (of_decide_eq_true hb)
  · unfold isStarB
    exact decide_eq_decide.2 h.2

theorem apart_bd {p : Plt} (hp : PltOk p) (a b : Int) : B60 (apartE p a b).1 ∧ B60 (apartE p a b).2.1 := by
  unfold apartE
  by_cases h : truthE p (isStarB p a && isStarB p b) = 0
  · rw [if_neg (not_not_intro h)]
    have hb := (truthE_ok h).2.1
    rw [Bool.and_eq_true] at hb
    have hi := of_decide_eq_true hb.1
    have hk := of_decide_eq_true hb.2
    by_cases e : a = b
    · rw [if_pos e]; unfold B60; dsimp only; omega
    · rw [if_neg e]
      have key : ∀ d, ∀ x ∈ (scalesP p (knownP p)).flatMap (apartQ p a.toNat b.toNat d), -10000000000000 ≤ x ∧ x ≤ 10000000000000 := fun d x hx => by
        obtain ⟨s, hs, hx⟩ := apart_mem.1 hx
        obtain ⟨n, _, hx⟩ := apartG_mem.1 hx
        have h0 := mem_sc hp hs
        have h1 := clamp_in (mem_at hs d).1 n
        have h2 := corn_bd (scalesP_mem.1 hs).2 d
        have b1 := placeP_bd (d := d) (hp.s _ (getD_mem (show a.toNat < p.st.length by omega) star0)) (sc := s) (by omega) (c := clampC (cornP p d s (knownP p)) n) (by omega)
        have b2 := placeP_bd (d := d) (hp.s _ (getD_mem (show b.toNat < p.st.length by omega) star0)) (sc := s) (by omega) (c := clampC (cornP p d s (knownP p)) n) (by omega)
        omega
      have h1 := hullE_bd (B := 10000000000000) (by omega) (key false)
      have h2 := hullE_bd (B := 10000000000000) (by omega) (key true)
      unfold apartH spanE B60
      dsimp only
      omega
  · rw [if_pos h]
    unfold B60
    dsimp only
    omega

set_option maxRecDepth 100000 in
set_option maxHeartbeats 4000000 in
theorem pturned_bad (y : Option Addr × Nat) (p : Plt) (a b : Int) (w : World) (hm : InP w y p) (hp : ¬ PltOk p) :
    Calls Try.prog 11 [.agg (pltC y p).toArray, i64 a, i64 b].toArray w (Ret w (.bool true)) := by
  refine fEnter Try.func11 rfl Try.ntmps11 rfl ?_
  refine kSeq ?_
  refine kRegion rfl ?_
  refine lE rfl ?_
  refine eBoxA rfl fun n3 => ?_
  refine lV (yAssign rfl) rfl rfl ?_
  refine lNil ?_
  refine kThen ?_
  refine kSeq ?_
  refine kSeq ?_
  refine kRegion rfl ?_
  refine lV (yFieldAddr rfl F26_1) rfl rfl ?_
  refine lV (yLoad1 rfl O24 (cOwn 0 rfl rfl)) rfl rfl ?_
  refine lV (yLen rfl S24) rfl rfl ?_
  refine lV (yGtr rfl rfl) rfl rfl ?_
  refine lV (yMove rfl) rfl rfl ?_
  refine split (t := 41) rfl (fun h41 => ?_) (fun h41 => ?_)
  · refine lGN rfl rfl rfl rfl rfl ?_
    refine lGN rfl rfl rfl rfl rfl ?_
    refine lGN rfl rfl rfl rfl rfl ?_
    refine lV (yPickT rfl rfl) rfl rfl ?_
    refine lNil ?_
    refine kThen ?_
    refine kIfT rfl ?_
    refine kSeq ?_
    refine kRegion rfl ?_
    refine lV (yCall rfl .n C14 (fun w hw => alive_any w)) rfl rfl ?_
    refine lV (yAssign rfl) rfl rfl ?_
    refine lNil ?_
    refine kThen ?_
    refine kRet ?_
    refine kThenR ?_
    refine fRet rfl (.t rfl .n) (endRet ?_)
    rfl
  · refine lGY rfl rfl rfl (oV (yLoadA (vs := [_, _, _]) rfl A26 (cOwn 0 rfl rfl)) rfl ?_)
    refine lGY rfl rfl rfl (oV (yCall rfl (.c rfl .n) C23 (fun w hw => rplate_any y p w (hm.eff0 hw) (by omega))) rfl ?_)
    refine knownB (t := 43) (c := false) rfl (decide_eq_false hp) ?_
    refine lGY rfl rfl rfl (oV (yNot rfl) rfl ?_)
    refine lV (yPickF rfl rfl) rfl rfl ?_
    refine lNil ?_
    refine kThen ?_
    refine kIfT rfl ?_
    refine kSeq ?_
    refine kRegion rfl ?_
    refine lV (yCall rfl .n C14 (fun w hw => alive_any w)) rfl rfl ?_
    refine lV (yAssign rfl) rfl rfl ?_
    refine lNil ?_
    refine kThen ?_
    refine kRet ?_
    refine kThenR ?_
    refine fRet rfl (.t rfl .n) (endRet ?_)
    rfl

set_option maxRecDepth 100000 in
set_option maxHeartbeats 8000000 in
theorem pturned_ok (y : Option Addr × Nat) (p : Plt) (a b : Int) (w : World) (hm : InP w y p) (hp : PltOk p) (ha : In64 a) :
    Calls Try.prog 11 [.agg (pltC y p).toArray, i64 a, i64 b].toArray w (Ret w (.bool true)) := by
  have hl10 := hp.n
  have hrl := rev_len p
  have hL6 : p.st.length ≤ 1000000 := by omega
  have hL6q : (revP p).st.length ≤ 1000000 := by omega
  obtain ⟨c, c', d, d', e1, e2, e3, e4, hc, hd, ⟨hc1, hc2⟩, hd1, hd2⟩ := rev_sizes hp
  refine fEnter Try.func11 rfl Try.ntmps11 rfl ?_
  refine kSeq ?_
  refine kRegion rfl ?_
  refine lE rfl ?_
  refine eBoxA rfl fun n3 => ?_
  refine lV (yAssign rfl) rfl rfl ?_
  refine lNil ?_
  refine kThen ?_
  refine kSeq ?_
  refine kSeq ?_
  refine kRegion rfl ?_
  refine lV (yFieldAddr rfl F26_1) rfl rfl ?_
  refine lV (yLoad1 rfl O24 (cOwn 0 rfl rfl)) rfl rfl ?_
  refine lV (yLen rfl S24) rfl rfl ?_
  refine lV (yGtr rfl rfl) rfl rfl ?_
  refine knownN (t := 40) rfl (by omega) ?_
  refine lV (yMove rfl) rfl rfl ?_
  refine lGY rfl rfl rfl (oV (yLoadA (vs := [_, _, _]) rfl A26 (cOwn 0 rfl rfl)) rfl ?_)
  refine lGY rfl rfl rfl (oV (yCall rfl (.c rfl .n) C23 (fun w hw => rplate_any y p w (hm.eff0 hw) (by omega))) rfl ?_)
  refine knownB (t := 43) (c := true) rfl (decide_eq_true hp) ?_
  refine lGY rfl rfl rfl (oV (yNot rfl) rfl ?_)
  refine lV (yPickF rfl rfl) rfl rfl ?_
  refine lNil ?_
  refine kThen ?_
  refine kIfF rfl ?_
  refine kSkip ?_
  refine kThen ?_
  refine kSeq ?_
  refine kRegion rfl ?_
  refine lV (yFieldAddr rfl F26_1) rfl rfl ?_
  refine lV (yLoad1 rfl O24 (cOwn 0 rfl rfl)) rfl rfl ?_
  refine lV (yLen rfl S24) rfl rfl ?_
  refine lV (yAssign rfl) rfl rfl ?_
  refine lNil ?_
  refine kThen ?_
  refine kSeq ?_
  refine kRegion rfl ?_
  refine lE rfl ?_
  refine eBuildSlice .n (fun w => BS24_0_ w) fun n50 => ?_
  refine lV (yFieldAddr rfl F26_1) rfl rfl ?_
  refine lV (yLoad1 rfl O24 (cOwn 1 rfl rfl)) rfl rfl ?_
  refine lE rfl ?_
  skip
  refine eAppend (gs := .b n50 0 []) (es := []) [(n3, _)] (p.st.map rowS) AP24 rfl rfl (.c 1 rfl (.c 0 rfl .n)) (OS.lit (es := []) (by simp) rfl (by simp)) (by simp) (rowsS_len p.st) (flatten_range (f := rowS) p.st star0 ▸ SlN.sl hm.r) (rowsS_one p.st) (by simp; omega) (by simp; omega) fun g0 hg0 => ?_
  rw [List.nil_append] at hg0
  rw [show (([] : List (List Value)) ++ p.st.map rowS).length = p.st.length from by simp]
  refine lV (yAssign rfl) rfl rfl ?_
  refine lNil ?_
  refine kThen ?_
  refine kSeq ?_
  refine kRegion rfl ?_
  refine lV (yLoadA (vs := [_, _, _]) rfl A26 (cOwn 0 rfl rfl)) rfl rfl ?_
  refine lE rfl ?_
  refine eAlloc Z26 fun n9 => ?_
  refine lE rfl ?_
  refine eStoreL 0 rfl rfl rfl rfl K26 rfl (rfl) ?_
  refine lNil ?_
  refine kThen ?_
  refine kSeq ?_
  refine kRegion rfl ?_
  refine lV (yFieldAddr rfl F26_1) rfl rfl ?_
  refine lE rfl ?_
  refine eStoreL 0 rfl rfl rfl rfl K24 rfl (rfl) ?_
  refine lNil ?_
  refine kThen ?_
  refine kSeq ?_
  refine kSeq ?_
  refine kRegion rfl ?_
  refine lV (yFieldAddr rfl F26_1) rfl rfl ?_
  refine lV (yLoad1 rfl O24 (cOwn 1 rfl rfl)) rfl rfl ?_
  refine lV (yLen rfl S24) rfl rfl ?_
  refine lV (yMove rfl) rfl rfl ?_
  refine lNil ?_
  refine kThen ?_
  refine kBlock ?_
  refine kLoopX (ι := Nat × Own) (fun x => x.1 ≤ p.st.length ∧ OS 9 x.2 ((revL p x.1).map rowS)) (fun x => [(59, i64 (x.1 : Nat))]) [(0, _), (1, _), (2, _), (3, _), (6, _), (37, _), (38, _), (39, _), (40, _), (41, _), (42, _), (43, _), (44, _), (45, _), (47, _), (48, _), (49, _), (7, _), (50, _), (51, _), (52, _), (53, _), (8, _), (54, _), (9, _), (55, _), (56, _), (57, _), (58, _)] (fun x => []) (fun x => ([(n9, blk [i64 p.sc.1, i64 p.sc.2, osV x.2 ((revL p x.1).map rowS).length] 26)] ++ (osL 58 x.2 ++ osL 58 g0))) [(n3, _)] (fun x => p.st.length - x.1) (0, .e none) (⟨Nat.zero_le _, OS.empty⟩) rfl (.c rfl .n) (.c rfl (.c rfl (.c rfl (.c rfl (.c rfl (.c rfl (.c rfl (.c rfl (.c rfl (.c rfl (.c rfl (.c rfl (.c rfl (.c rfl (.c rfl (.c rfl (.c rfl (.c rfl (.c rfl (.c rfl (.c rfl (.c rfl (.c rfl (.c rfl (.c rfl (.c rfl (.c rfl (.c rfl (.c rfl .n))))))))))))))))))))))))))))) (.c 1 rfl (.c 0 rfl .r)) ?_
  rintro ⟨i, h⟩ ⟨hi, hh⟩
  dsimp only at hi hh ⊢
  refine kSeq ?_
  refine kRegion rfl ?_
  refine lV (yLss rfl rfl) rfl rfl ?_
  refine lNil ?_
  refine kThen ?_
  refine kSeq ?_
  refine split (t := 60) rfl (fun h60 => ?_) (fun h60 => ?_)
  · refine kIfT rfl ?_
    refine kSkip ?_
    refine kThen ?_
    refine kSeq ?_
    refine kBlock ?_
    refine kSeq ?_
    refine kRegion rfl ?_
    refine lV (yMove rfl) rfl rfl ?_
    refine lV (yAssign rfl) rfl rfl ?_
    refine lNil ?_
    refine kThen ?_
    have hll := revL_len (p := p) (n := i) (by omega)
    refine kDrawE [(1, none), (3, none), (8, none), (9, none)] [] [0, 1, 2, 3, 4, 5, 6, 7, 8, 9, 12] 3 hMix (by kernel_rfl) ?_
    refine .run rfl (yFieldAddr rfl F26_1) rfl rfl ?_
    refine .run rfl (yLoad1 rfl O24 (cOwn 1 rfl rfl)) rfl rfl ?_
    refine .run rfl (yFieldAddr rfl F26_1) rfl rfl ?_
    refine .run rfl (yLoad1 rfl O24 (cOwn 0 rfl rfl)) rfl rfl ?_
    refine .run rfl (yMove rfl) rfl rfl ?_
    refine .run rfl (ySub rfl rfl (by omega)) rfl rfl ?_
    refine .run rfl (yMove rfl) rfl rfl ?_
    refine .run rfl (yvSame (u := i64 ((p.st.length - 1 - i : Nat) : Int)) (ySub rfl rfl (by omega)) (by congr 1; omega)) rfl rfl ?_
    refine .run rfl (yIndexS  rfl rfl S24 (hm.r) ((by omega))) rfl rfl ?_
    refine .run rfl (yLoadA (vs := [_, _, _, _, _, _, _, _, _]) rfl A58 (cSl0 (hm.r) ((by omega)) rfl)) rfl rfl ?_
    refine .run rfl (yFieldAddr rfl F26_1) rfl rfl ?_
    refine .done ?_
    refine effStep 10 [] (by kernel_rfl) closedSt (hLeft [1, 3, 8, 9] (by kernel_rfl) (.c (fun _ _ hs => hs.ef) (.c (fun _ _ hs => hs.ef) (.c (fun _ _ hs => hs.ef) (.c (fun _ _ hs => hs.ef) .n))))) ?_
    refine .c ?_ .n
    refine effOne rfl (gNone rfl (fBuildSlice (.c rfl .n) (fun w => BS24_1_0 w))) ?_
    refine effStep 11 [] (by kernel_rfl) (closedEx fun n72 => closedSt) (hLeft [1] (by kernel_rfl) (.c (fun _ _ ⟨n72, hs⟩ => hs.ef.sub (.c 1 rfl (.c 1 rfl (.d 0 .r)))) .n)) ?_
    refine .c ?_ .n
    refine effOne rfl (opEx fun n72 => (gNone rfl (fAppend (gs := h) ([(n72, _), (n3, _), (n9, _)] ++ osL 58 g0) [rowS (p.st.getD (p.st.length - 1 - i) star0)] AP24 rfl rfl (.c 0 rfl (.c 0 rfl (.c 0 rfl (SubP.comm _ _)))) hh rfl (rowsS_len [_]) (SlN.own 0 rfl rfl) (rowsS_one [_]) (by simp; omega) (by simp; omega)))) ?_
    refine effStep 13 [] (by kernel_rfl) (closedEx fun n72 => (closedEx fun h2 => closedSt)) (hLeft [] (by kernel_rfl) .n) ?_
    refine .c ?_ .n
    refine effOne rfl (opEx fun n72 => (opEx fun h2 => (gNone rfl (fStoreL 2 rfl rfl rfl rfl K24 rfl (rfl))))) ?_
    refine effDone (closedEx fun n72 => (closedEx fun h2 => closedSt)) (hLeft [] (by kernel_rfl) .n) (by kernel_rfl) ?_
    refine trEx fun n72 => ?_
    refine trEx fun h2 => ?_
    refine kInN ?_
    refine kThen ?_
    rw [show (List.map rowS (revL p i) ++ [rowS (p.st.getD (p.st.length - 1 - i) star0)]).length = ((revL p (i + 1)).map rowS).length from by rw [revL_succ (by omega), List.map_append]; rfl]
    refine kRegion rfl ?_
    refine lV (yAdd rfl rfl (by omega)) rfl rfl ?_
    refine lV (yMove rfl) rfl rfl ?_
    refine lNil ?_
    exact kRoundX (i + 1, h2.1) (⟨by dsimp only; omega, by dsimp only; rw [revL_succ (by omega), List.map_append]; exact h2.2⟩) (by dsimp only; omega) rfl (.c rfl .n) (.c rfl (.c rfl (.c rfl (.c rfl (.c rfl (.c rfl (.c rfl (.c rfl (.c rfl (.c rfl (.c rfl (.c rfl (.c rfl (.c rfl (.c rfl (.c rfl (.c rfl (.c rfl (.c rfl (.c rfl (.c rfl (.c rfl (.c rfl (.c rfl (.c rfl (.c rfl (.c rfl (.c rfl (.c rfl .n))))))))))))))))))))))))))))) (.c 1 rfl (.c 1 rfl (.d 0 (show SubP (osL 58 h2.1 ++ osL 58 g0) (osL 58 g0 ++ osL 58 h2.1) from SubP.comm _ _))))
  · refine kIfF rfl ?_
    refine kExit ?_
    refine kThenX ?_
    refine kThenX ?_
    refine kInX ?_
    refine kThen ?_
    refine kSeq ?_
    have hil : i = p.st.length := by omega
    have hg' : OS 9 h ((revP p).st.map rowS) := by rw [hil, revL_all] at hh; exact hh
    rw [show ((revL p i).map rowS).length = (revP p).st.length by rw [hil, revL_all, List.length_map]]
    obtain ⟨B, hB⟩ : ∃ B : Heap, osL 58 h ++ osL 58 g0 = B := ⟨_, rfl⟩
    rw [hB]
    have hxB : SubP (osL 58 h) B := hB ▸ SubP.leftA _ _
    have hyB : SubP (osL 58 g0) B := hB ▸ SubP.tail
    refine kRegion rfl ?_
    refine lV (yLoadA (vs := [_, _, _]) rfl A26 (cOwn 0 rfl rfl)) rfl rfl ?_
    refine lV (yCall rfl (.c rfl .n) C15 (fun w hw => scale_any y p w (hm.eff0 hw))) rfl rfl ?_
    refine lV (yMove rfl) rfl rfl ?_
    refine lV (yExtract rfl rfl) rfl rfl ?_
    refine lV (yExtract rfl rfl) rfl rfl ?_
    refine lE rfl ?_
    refine eAlloc Z23 fun n11 => ?_
    refine lE rfl ?_
    refine eStoreL 0 rfl rfl rfl rfl K23 rfl (rfl) ?_
    refine lV (yAssign rfl) rfl rfl ?_
    refine lNil ?_
    refine kThen ?_
    refine kSeq ?_
    refine kRegion rfl ?_
    refine lV (yLoadA (vs := [_, _, _]) rfl A26 (cOwn 2 rfl rfl)) rfl rfl ?_
    refine lV (yCall rfl (.c rfl .n) C15 (fun w hw => scale_any (osA h, osC h) (revP p) w (OS.rowsE (f := rowS) star0 hg' ((hw.sub (.d 0 (.d 0 (.d 0 .r)))).sub hxB) .r))) rfl rfl ?_
    refine same (t := 83) (u := outC (scaleE p)) rfl (by rw [rev_scale hp]) ?_
    refine lV (yMove rfl) rfl rfl ?_
    refine lV (yExtract rfl rfl) rfl rfl ?_
    refine lV (yExtract rfl rfl) rfl rfl ?_
    refine lE rfl ?_
    refine eAlloc Z23 fun n13 => ?_
    refine lE rfl ?_
    refine eStoreL 0 rfl rfl rfl rfl K23 rfl (rfl) ?_
    refine lV (yAssign rfl) rfl rfl ?_
    refine lNil ?_
    refine kThen ?_
    refine kSeq ?_
    refine kRegion rfl ?_
    refine lV (yLoadA (vs := [_, _, _]) rfl A26 (cOwn 2 rfl rfl)) rfl rfl ?_
    refine lV (yCall rfl (.c rfl .n) C17 (fun w hw => zero_any y p w (hm.eff0 hw))) rfl rfl ?_
    refine lV (yMove rfl) rfl rfl ?_
    refine lV (yExtract rfl rfl) rfl rfl ?_
    refine lV (yExtract rfl rfl) rfl rfl ?_
    refine lV (yExtract rfl rfl) rfl rfl ?_
    refine lE rfl ?_
    refine eAlloc Z23 fun n15 => ?_
    refine lE rfl ?_
    refine eAlloc Z23 fun n16 => ?_
    refine lE rfl ?_
    refine eStoreL 1 rfl rfl rfl rfl K23 rfl (rfl) ?_
    refine lE rfl ?_
    refine eStoreL 0 rfl rfl rfl rfl K23 rfl (rfl) ?_
    refine lV (yAssign rfl) rfl rfl ?_
    refine lNil ?_
    refine kThen ?_
    refine kSeq ?_
    refine kRegion rfl ?_
    refine lV (yLoadA (vs := [_, _, _]) rfl A26 (cOwn 5 rfl rfl)) rfl rfl ?_
    refine lV (yCall rfl (.c rfl .n) C17 (fun w hw => zero_any (osA h, osC h) (revP p) w (OS.rowsE (f := rowS) star0 hg' ((hw.sub (.d 0 (.d 0 (.d 0 (.d 0 (.d 0 (.d 0 .r))))))).sub hxB) .r))) rfl rfl ?_
    refine same (t := 94) (u := outC2 (zeroE p)) rfl (by rw [rev_zero hp]) ?_
    refine lV (yMove rfl) rfl rfl ?_
    refine lV (yExtract rfl rfl) rfl rfl ?_
    refine lV (yExtract rfl rfl) rfl rfl ?_
    refine lV (yExtract rfl rfl) rfl rfl ?_
    refine lE rfl ?_
    refine eAlloc Z23 fun n18 => ?_
    refine lE rfl ?_
    refine eAlloc Z23 fun n19 => ?_
    refine lE rfl ?_
    refine eStoreL 1 rfl rfl rfl rfl K23 rfl (rfl) ?_
    refine lE rfl ?_
    refine eStoreL 0 rfl rfl rfl rfl K23 rfl (rfl) ?_
    refine lV (yAssign rfl) rfl rfl ?_
    refine lNil ?_
    refine kThen ?_
    refine kSeq ?_
    refine kRegion rfl ?_
    refine lV (yLoadA (vs := [_, _, _]) rfl A26 (cOwn 6 rfl rfl)) rfl rfl ?_
    refine lV (yCall rfl (.c rfl .n) C26 (fun w hw => clash_any y p w (hm.eff0 hw))) rfl rfl ?_
    refine same (t := 100) (u := .tuple [i64 (c : Nat), i64 0].toArray) rfl (by rw [e1]) ?_
    refine lV (yMove rfl) rfl rfl ?_
    refine lV (yExtract rfl rfl) rfl rfl ?_
    refine lV (yExtract rfl rfl) rfl rfl ?_
    refine lV (yAssign rfl) rfl rfl ?_
    refine lV (yAssign rfl) rfl rfl ?_
    refine lNil ?_
    refine kThen ?_
    refine kSeq ?_
    refine kRegion rfl ?_
    refine lV (yLoadA (vs := [_, _, _]) rfl A26 (cOwn 7 rfl rfl)) rfl rfl ?_
    refine lV (yCall rfl (.c rfl .n) C26 (fun w hw => clash_any (osA h, osC h) (revP p) w (OS.rowsE (f := rowS) star0 hg' ((hw.sub (.d 0 (.d 0 (.d 0 (.d 0 (.d 0 (.d 0 (.d 0 (.d 0 .r))))))))).sub hxB) .r))) rfl rfl ?_
    refine same (t := 105) (u := .tuple [i64 (c' : Nat), i64 0].toArray) rfl (by rw [e2]) ?_
    refine lV (yMove rfl) rfl rfl ?_
    refine lV (yExtract rfl rfl) rfl rfl ?_
    refine lV (yExtract rfl rfl) rfl rfl ?_
    refine lV (yAssign rfl) rfl rfl ?_
    refine lV (yAssign rfl) rfl rfl ?_
    refine lNil ?_
    refine kThen ?_
    refine kSeq ?_
    refine kRegion rfl ?_
    refine lV (yLoadA (vs := [_, _, _]) rfl A26 (cOwn 6 rfl rfl)) rfl rfl ?_
    refine lV (yCall rfl (.c rfl .n) C28 (fun w hw => drop_any y p w (hm.eff0 hw))) rfl rfl ?_
    refine same (t := 110) (u := .tuple [i64 (d : Nat), i64 0].toArray) rfl (by rw [e3]) ?_
    refine lV (yMove rfl) rfl rfl ?_
    refine lV (yExtract rfl rfl) rfl rfl ?_
    refine lV (yExtract rfl rfl) rfl rfl ?_
    refine lV (yAssign rfl) rfl rfl ?_
    refine lV (yAssign rfl) rfl rfl ?_
    refine lNil ?_
    refine kThen ?_
    refine kSeq ?_
    refine kRegion rfl ?_
    refine lV (yLoadA (vs := [_, _, _]) rfl A26 (cOwn 7 rfl rfl)) rfl rfl ?_
    refine lV (yCall rfl (.c rfl .n) C28 (fun w hw => drop_any (osA h, osC h) (revP p) w (OS.rowsE (f := rowS) star0 hg' ((hw.sub (.d 0 (.d 0 (.d 0 (.d 0 (.d 0 (.d 0 (.d 0 (.d 0 .r))))))))).sub hxB) .r))) rfl rfl ?_
    refine same (t := 115) (u := .tuple [i64 (d' : Nat), i64 0].toArray) rfl (by rw [e4]) ?_
    refine lV (yMove rfl) rfl rfl ?_
    refine lV (yExtract rfl rfl) rfl rfl ?_
    refine lV (yExtract rfl rfl) rfl rfl ?_
    refine lV (yAssign rfl) rfl rfl ?_
    refine lV (yAssign rfl) rfl rfl ?_
    refine lNil ?_
    refine kThen ?_
    refine kSeq ?_
    refine kSeq ?_
    refine kRegion rfl ?_
    refine lV (yLoadA (vs := [_, _]) rfl A23 (cOwn 5 rfl rfl)) rfl rfl ?_
    refine lV (yLoadA (vs := [_, _]) rfl A23 (cOwn 4 rfl rfl)) rfl rfl ?_
    refine lV (yNeAgg rfl rfl G23 (fun w => Q23 w)) rfl rfl ?_
    refine knownB (t := 120) (c := false) rfl (by simp) ?_
    refine lV (yMove rfl) rfl rfl ?_
    refine lGY rfl rfl rfl (oV (yMove rfl) rfl ?_)
    refine lGY rfl rfl rfl (oV (yMove rfl) rfl ?_)
    refine lGY rfl rfl rfl (oV (yNeq rfl rfl) rfl ?_)
    refine knownB (t := 124) (c := false) rfl (by simp) ?_
    refine lV (yPickF rfl rfl) rfl rfl ?_
    refine lV (yMove rfl) rfl rfl ?_
    refine lGY rfl rfl rfl (oV (yLoadA (vs := [_, _]) rfl A23 (cOwn 3 rfl rfl)) rfl ?_)
    refine lGY rfl rfl rfl (oV (yLoadA (vs := [_, _]) rfl A23 (cOwn 1 rfl rfl)) rfl ?_)
    refine lGY rfl rfl rfl (oV (yNeAgg rfl rfl G23 (fun w => Q23 w)) rfl ?_)
    refine knownB (t := 129) (c := false) rfl (by simp) ?_
    refine lV (yPickF rfl rfl) rfl rfl ?_
    refine lV (yMove rfl) rfl rfl ?_
    refine lGY rfl rfl rfl (oV (yLoadA (vs := [_, _]) rfl A23 (cOwn 2 rfl rfl)) rfl ?_)
    refine lGY rfl rfl rfl (oV (yLoadA (vs := [_, _]) rfl A23 (cOwn 0 rfl rfl)) rfl ?_)
    refine lGY rfl rfl rfl (oV (yNeAgg rfl rfl G23 (fun w => Q23 w)) rfl ?_)
    refine knownB (t := 134) (c := false) rfl (by simp) ?_
    refine lV (yPickF rfl rfl) rfl rfl ?_
    refine lV (yMove rfl) rfl rfl ?_
    refine lGY rfl rfl rfl (oV (yMove rfl) rfl ?_)
    refine lGY rfl rfl rfl (oV (yMove rfl) rfl ?_)
    refine lGY rfl rfl rfl (oV (yNeq rfl rfl) rfl ?_)
    refine knownB (t := 139) (c := false) rfl (by simp) ?_
    refine lV (yPickF rfl rfl) rfl rfl ?_
    refine lV (yMove rfl) rfl rfl ?_
    refine lGY rfl rfl rfl (oV (yMove rfl) rfl ?_)
    refine lGY rfl rfl rfl (oV (yMove rfl) rfl ?_)
    refine lGY rfl rfl rfl (oV (yNeq rfl rfl) rfl ?_)
    refine knownB (t := 144) (c := false) rfl (by simp) ?_
    refine lV (yPickF rfl rfl) rfl rfl ?_
    refine lV (yMove rfl) rfl rfl ?_
    refine lGY rfl rfl rfl (oV (yMove rfl) rfl ?_)
    refine lGY rfl rfl rfl (oV (yMove rfl) rfl ?_)
    refine lGY rfl rfl rfl (oV (yNeq rfl rfl) rfl ?_)
    refine knownB (t := 149) (c := false) rfl (by simp) ?_
    refine lV (yPickF rfl rfl) rfl rfl ?_
    refine lV (yMove rfl) rfl rfl ?_
    refine lGY rfl rfl rfl (oV (yMove rfl) rfl ?_)
    refine lGY rfl rfl rfl (oV (yLss rfl rfl) rfl ?_)
    refine knownN (t := 153) rfl (by omega) ?_
    refine lV (yPickF rfl rfl) rfl rfl ?_
    refine lV (yMove rfl) rfl rfl ?_
    refine lGY rfl rfl rfl (oV (yMove rfl) rfl ?_)
    refine lGY rfl rfl rfl (oV (yLss rfl rfl) rfl ?_)
    refine knownN (t := 157) rfl (by omega) ?_
    refine lV (yPickF rfl rfl) rfl rfl ?_
    refine lV (yMove rfl) rfl rfl ?_
    refine lGY rfl rfl rfl (oV (yMove rfl) rfl ?_)
    refine lGY rfl rfl rfl (oV (yLss rfl rfl) rfl ?_)
    refine knownN (t := 161) rfl (by omega) ?_
    refine lV (yPickF rfl rfl) rfl rfl ?_
    refine lV (yMove rfl) rfl rfl ?_
    refine lGY rfl rfl rfl (oV (yMove rfl) rfl ?_)
    refine lGY rfl rfl rfl (oV (yLss rfl rfl) rfl ?_)
    refine knownN (t := 165) rfl (by omega) ?_
    refine lV (yPickF rfl rfl) rfl rfl ?_
    refine lV (yMove rfl) rfl rfl ?_
    refine lGY rfl rfl rfl (oV (yMove rfl) rfl ?_)
    refine lGY rfl rfl rfl (oV (yCall rfl (.c rfl .n) C43 (fun w hw => size_any c w (by omega))) rfl ?_)
    refine lGY rfl rfl rfl (oV (yMove rfl) rfl ?_)
    refine lGY rfl rfl rfl (oV (yCall rfl (.c rfl .n) C43 (fun w hw => size_any c' w (by omega))) rfl ?_)
    refine lGY rfl rfl rfl (oV (yNeq rfl rfl) rfl ?_)
    refine knownB (t := 172) (c := false) rfl (by rw [hc]; simp) ?_
    refine lV (yPickF rfl rfl) rfl rfl ?_
    refine lV (yMove rfl) rfl rfl ?_
    refine lGY rfl rfl rfl (oV (yMove rfl) rfl ?_)
    refine lGY rfl rfl rfl (oV (yCall rfl (.c rfl .n) C43 (fun w hw => size_any d w (by omega))) rfl ?_)
    refine lGY rfl rfl rfl (oV (yMove rfl) rfl ?_)
    refine lGY rfl rfl rfl (oV (yCall rfl (.c rfl .n) C43 (fun w hw => size_any d' w (by omega))) rfl ?_)
    refine lGY rfl rfl rfl (oV (yNeq rfl rfl) rfl ?_)
    refine knownB (t := 179) (c := false) rfl (by rw [hd]; simp) ?_
    refine lV (yPickF rfl rfl) rfl rfl ?_
    refine lNil ?_
    refine kThen ?_
    refine kIfF rfl ?_
    refine kSkip ?_
    refine kThen ?_
    refine kSeq ?_
    refine forgetP ([(n19, _), (n18, _), (n16, _), (n15, _), (n3, _), (n9, _)] ++ B) (.c 0 rfl (.c 0 rfl (.c 0 rfl (.c 0 rfl (.c 2 rfl (.c 2 rfl (.d 0 (.d 0 (by exact SubP.r))))))))) ?_
    refine weak [(1, _), (2, _), (3, _), (6, _), (7, _), (8, _), (9, _), (15, _), (16, _), (17, _), (18, _), (19, _), (20, _)] (.c rfl (.c rfl (.c rfl (.c rfl (.c rfl (.c rfl (.c rfl (.c rfl (.c rfl (.c rfl (.c rfl (.c rfl (.c rfl .n))))))))))))) ?_
    refine kRegion rfl ?_
    refine lV (yLoadA (vs := [_, _, _]) rfl A26 (cOwn 4 rfl rfl)) rfl rfl ?_
    refine lV (yMove rfl) rfl rfl ?_
    refine lV (yCall rfl (.c rfl (.c rfl .n)) C19 (fun w hw => star_any y p a w (hm.eff0 hw) hL6)) rfl rfl ?_
    refine lV (yMove rfl) rfl rfl ?_
    refine lV (yExtract rfl rfl) rfl rfl ?_
    refine lV (yExtract rfl rfl) rfl rfl ?_
    refine lV (yExtract rfl rfl) rfl rfl ?_
    refine lE rfl ?_
    refine eStoreL 3 rfl rfl rfl rfl K23 rfl (rfl) ?_
    refine lE rfl ?_
    refine eStoreL 2 rfl rfl rfl rfl K23 rfl (rfl) ?_
    refine lV (yAssign rfl) rfl rfl ?_
    refine lNil ?_
    refine kThen ?_
    refine kSeq ?_
    refine kRegion rfl ?_
    refine lV (yLoadA (vs := [_, _, _]) rfl A26 (cOwn 5 rfl rfl)) rfl rfl ?_
    refine lV (yMove rfl) rfl rfl ?_
    refine lV (ySub rfl rfl (by omega)) rfl rfl ?_
    refine lV (yMove rfl) rfl rfl ?_
    refine lV (yArith rfl rfl ((.inr (.inl ⟨rfl, rfl⟩)))) rfl rfl ?_
    refine lV (yCall rfl (.c rfl (.c rfl .n)) C19 (fun w hw => star_any (osA h, osC h) (revP p) (IntKind.i64.wrap ((p.st.length : Int) - 1 - a)) w (OS.rowsE (f := rowS) star0 hg' ((hw.sub (.d 0 (.d 0 (.d 0 (.d 0 (.d 0 (.d 0 .r))))))).sub hxB) .r) hL6q)) rfl rfl ?_
    refine same (t := 194) (u := outC2 (starE p a)) rfl (by rw [turn_star hp ha]) ?_
    refine lV (yMove rfl) rfl rfl ?_
    refine lV (yExtract rfl rfl) rfl rfl ?_
    refine lV (yExtract rfl rfl) rfl rfl ?_
    refine lV (yExtract rfl rfl) rfl rfl ?_
    refine lE rfl ?_
    refine eStoreL 1 rfl rfl rfl rfl K23 rfl (rfl) ?_
    refine lE rfl ?_
    refine eStoreL 0 rfl rfl rfl rfl K23 rfl (rfl) ?_
    refine lV (yAssign rfl) rfl rfl ?_
    refine lNil ?_
    refine kThen ?_
    refine kSeq ?_
    refine kSeq ?_
    refine kRegion rfl ?_
    refine lV (yLoadA (vs := [_, _]) rfl A23 (cOwn 3 rfl rfl)) rfl rfl ?_
    refine lV (yLoadA (vs := [_, _]) rfl A23 (cOwn 1 rfl rfl)) rfl rfl ?_
    refine lV (yNeAgg rfl rfl G23 (fun w => Q23 w)) rfl rfl ?_
    refine knownB (t := 200) (c := false) rfl (by simp) ?_
    refine lV (yMove rfl) rfl rfl ?_
    refine lGY rfl rfl rfl (oV (yLoadA (vs := [_, _]) rfl A23 (cOwn 2 rfl rfl)) rfl ?_)
    refine lGY rfl rfl rfl (oV (yLoadA (vs := [_, _]) rfl A23 (cOwn 0 rfl rfl)) rfl ?_)
    refine lGY rfl rfl rfl (oV (yNeAgg rfl rfl G23 (fun w => Q23 w)) rfl ?_)
    refine knownB (t := 204) (c := false) rfl (by simp) ?_
    refine lV (yPickF rfl rfl) rfl rfl ?_
    refine lV (yMove rfl) rfl rfl ?_
    refine lGY rfl rfl rfl (oV (yMove rfl) rfl ?_)
    refine lGY rfl rfl rfl (oV (yMove rfl) rfl ?_)
    refine lGY rfl rfl rfl (oV (yNeq rfl rfl) rfl ?_)
    refine knownB (t := 209) (c := false) rfl (by simp) ?_
    refine lV (yPickF rfl rfl) rfl rfl ?_
    refine lNil ?_
    refine kThen ?_
    refine kIfF rfl ?_
    refine kSkip ?_
    refine kThen ?_
    refine kSeq ?_
    refine forgetP ([(n19, _), (n18, _), (n16, _), (n15, _), (n3, _), (n9, _)] ++ B) (.c 0 rfl (.c 0 rfl (.c 0 rfl (.c 0 rfl (.c 0 rfl (.c 0 rfl (by exact SubP.r))))))) ?_
    obtain ⟨r, hr⟩ : ∃ r, r = apartE p a b := ⟨_, rfl⟩
    have hbd := apart_bd hp a b
    rw [← hr] at hbd
    unfold B60 at hbd
    refine weak [(1, _), (2, _), (3, _), (6, _), (7, _), (8, _), (9, _), (15, _), (16, _), (17, _), (18, _), (19, _), (20, _)] (.c rfl (.c rfl (.c rfl (.c rfl (.c rfl (.c rfl (.c rfl (.c rfl (.c rfl (.c rfl (.c rfl (.c rfl (.c rfl .n))))))))))))) ?_
    refine kRegion rfl ?_
    refine lV (yLoadA (vs := [_, _, _]) rfl A26 (cOwn 4 rfl rfl)) rfl rfl ?_
    refine lV (yMove rfl) rfl rfl ?_
    refine lV (yMove rfl) rfl rfl ?_
    refine lV (yCall rfl (.c rfl (.c rfl (.c rfl .n))) C21 (fun w hw => apart_any y p a b w (hm.eff0 hw) hL6)) rfl rfl ?_
    refine same (t := 215) (u := .tuple [.agg [i64 r.1.1, i64 r.1.2].toArray, .agg [i64 r.2.1.1, i64 r.2.1.2].toArray, i64 r.2.2].toArray) rfl (by rw [← hr]) ?_
    refine lV (yMove rfl) rfl rfl ?_
    refine lV (yExtract rfl rfl) rfl rfl ?_
    refine lV (yExtract rfl rfl) rfl rfl ?_
    refine lV (yExtract rfl rfl) rfl rfl ?_
    refine lE rfl ?_
    refine eStoreL 3 rfl rfl rfl rfl K23 rfl (rfl) ?_
    refine lE rfl ?_
    refine eStoreL 2 rfl rfl rfl rfl K23 rfl (rfl) ?_
    refine lV (yAssign rfl) rfl rfl ?_
    refine lNil ?_
    refine kThen ?_
    refine kSeq ?_
    refine kRegion rfl ?_
    refine lV (yLoadA (vs := [_, _, _]) rfl A26 (cOwn 4 rfl rfl)) rfl rfl ?_
    refine lV (yMove rfl) rfl rfl ?_
    refine lV (yMove rfl) rfl rfl ?_
    refine lV (yCall rfl (.c rfl (.c rfl (.c rfl .n))) C21 (fun w hw => apart_any y p b a w (hm.eff0 hw) hL6)) rfl rfl ?_
    refine same (t := 223) (u := .tuple [.agg [i64 (-r.1.2), i64 (-r.1.1)].toArray, .agg [i64 (-r.2.1.2), i64 (-r.2.1.1)].toArray, i64 r.2.2].toArray) rfl (by rw [apart_neg, ← hr]) ?_
    refine lV (yMove rfl) rfl rfl ?_
    refine lV (yExtract rfl rfl) rfl rfl ?_
    refine lV (yExtract rfl rfl) rfl rfl ?_
    refine lV (yExtract rfl rfl) rfl rfl ?_
    refine lE rfl ?_
    refine eStoreL 1 rfl rfl rfl rfl K23 rfl (rfl) ?_
    refine lE rfl ?_
    refine eStoreL 0 rfl rfl rfl rfl K23 rfl (rfl) ?_
    refine lV (yAssign rfl) rfl rfl ?_
    refine lNil ?_
    refine kThen ?_
    refine kSeq ?_
    refine kSeq ?_
    refine kRegion rfl ?_
    refine lV (yMove rfl) rfl rfl ?_
    refine lV (yMove rfl) rfl rfl ?_
    refine lV (yNeq rfl rfl) rfl rfl ?_
    refine knownB (t := 229) (c := false) rfl (by simp) ?_
    refine lV (yMove rfl) rfl rfl ?_
    refine lGY rfl rfl rfl (oV (yFieldAddr rfl F23_0) rfl ?_)
    refine lGY rfl rfl rfl (oV (yLoad1 rfl O3 (cOwn 3 rfl rfl)) rfl ?_)
    refine lGY rfl rfl rfl (oV (yFieldAddr rfl F23_1) rfl ?_)
    refine lGY rfl rfl rfl (oV (yLoad1 rfl O3 (cOwn 1 rfl rfl)) rfl ?_)
    refine lGY rfl rfl rfl (oV (yNeg rfl (by omega)) rfl ?_)
    refine lGY rfl rfl rfl (oV (yNeq rfl rfl) rfl ?_)
    refine knownB (t := 236) (c := false) rfl (by simp) ?_
    refine lV (yPickF rfl rfl) rfl rfl ?_
    refine lV (yMove rfl) rfl rfl ?_
    refine lGY rfl rfl rfl (oV (yFieldAddr rfl F23_1) rfl ?_)
    refine lGY rfl rfl rfl (oV (yLoad1 rfl O3 (cOwn 3 rfl rfl)) rfl ?_)
    refine lGY rfl rfl rfl (oV (yFieldAddr rfl F23_0) rfl ?_)
    refine lGY rfl rfl rfl (oV (yLoad1 rfl O3 (cOwn 1 rfl rfl)) rfl ?_)
    refine lGY rfl rfl rfl (oV (yNeg rfl (by omega)) rfl ?_)
    refine lGY rfl rfl rfl (oV (yNeq rfl rfl) rfl ?_)
    refine knownB (t := 244) (c := false) rfl (by simp) ?_
    refine lV (yPickF rfl rfl) rfl rfl ?_
    refine lV (yMove rfl) rfl rfl ?_
    refine lGY rfl rfl rfl (oV (yFieldAddr rfl F23_0) rfl ?_)
    refine lGY rfl rfl rfl (oV (yLoad1 rfl O3 (cOwn 2 rfl rfl)) rfl ?_)
    refine lGY rfl rfl rfl (oV (yFieldAddr rfl F23_1) rfl ?_)
    refine lGY rfl rfl rfl (oV (yLoad1 rfl O3 (cOwn 0 rfl rfl)) rfl ?_)
    refine lGY rfl rfl rfl (oV (yNeg rfl (by omega)) rfl ?_)
    refine lGY rfl rfl rfl (oV (yNeq rfl rfl) rfl ?_)
    refine knownB (t := 252) (c := false) rfl (by simp) ?_
    refine lV (yPickF rfl rfl) rfl rfl ?_
    refine lV (yMove rfl) rfl rfl ?_
    refine lGY rfl rfl rfl (oV (yFieldAddr rfl F23_1) rfl ?_)
    refine lGY rfl rfl rfl (oV (yLoad1 rfl O3 (cOwn 2 rfl rfl)) rfl ?_)
    refine lGY rfl rfl rfl (oV (yFieldAddr rfl F23_0) rfl ?_)
    refine lGY rfl rfl rfl (oV (yLoad1 rfl O3 (cOwn 0 rfl rfl)) rfl ?_)
    refine lGY rfl rfl rfl (oV (yNeg rfl (by omega)) rfl ?_)
    refine lGY rfl rfl rfl (oV (yNeq rfl rfl) rfl ?_)
    refine knownB (t := 260) (c := false) rfl (by simp) ?_
    refine lV (yPickF rfl rfl) rfl rfl ?_
    refine lNil ?_
    refine kThen ?_
    refine kIfF rfl ?_
    refine kSkip ?_
    refine kThen ?_
    refine kSeq ?_
    refine forgetP ([(n3, _), (n9, _)] ++ B) (.c 4 rfl (.c 4 rfl (.d 0 (.d 0 (.d 0 (.d 0 (by exact SubP.r))))))) ?_
    obtain ⟨q, hq⟩ : ∃ q, q = poorE p := ⟨_, rfl⟩
    have hend := poor_end hp
    rw [← hq] at hend
    refine weak [(3, _), (6, _), (7, _), (8, _), (9, _)] (.c rfl (.c rfl (.c rfl (.c rfl (.c rfl .n))))) ?_
    refine kRegion rfl ?_
    refine lV (yLoadA (vs := [_, _, _]) rfl A26 (cOwn 0 rfl rfl)) rfl rfl ?_
    refine lV (yCall rfl (.c rfl .n) C30 (fun w hw => poor_any y p w (hm.eff0 hw))) rfl rfl ?_
    refine same (t := 264) (u := .tuple [i64 q.1, i64 q.2.1, i64 q.2.2].toArray) rfl (by rw [← hq]) ?_
    refine lV (yMove rfl) rfl rfl ?_
    refine lV (yExtract rfl rfl) rfl rfl ?_
    refine lV (yExtract rfl rfl) rfl rfl ?_
    refine lV (yExtract rfl rfl) rfl rfl ?_
    refine lV (yAssign rfl) rfl rfl ?_
    refine lV (yAssign rfl) rfl rfl ?_
    refine lV (yAssign rfl) rfl rfl ?_
    refine lNil ?_
    refine kThen ?_
    refine kSeq ?_
    refine kSeq ?_
    refine kRegion rfl ?_
    refine lV (yMove rfl) rfl rfl ?_
    refine lV (yLen rfl S24) rfl rfl ?_
    refine lV (yMove rfl) rfl rfl ?_
    refine lNil ?_
    refine kThen ?_
    refine kBlock ?_
    refine kLoopX (ι := Nat) (fun z => z ≤ p.st.length) (fun z => [(270, i64 (z : Nat))]) [(3, _), (7, _), (8, _), (9, _), (263, _), (264, _), (262, _), (265, _), (266, _), (267, _), (29, _), (30, _), (31, _), (268, _), (269, _)] (fun z => []) (fun z => B) [(n3, _), (n9, _)] (fun z => p.st.length - z) 0 (Nat.zero_le _) rfl (.c rfl .n) (.c rfl (.c rfl (.c rfl (.c rfl (.c rfl (.c rfl (.c rfl (.c rfl (.c rfl (.c rfl (.c rfl (.c rfl (.c rfl (.c rfl (.c rfl .n))))))))))))))) (.c 0 rfl (.c 0 rfl .r)) ?_
    rintro z hz
    refine kSeq ?_
    refine kRegion rfl ?_
    refine lV (yLss rfl rfl) rfl rfl ?_
    refine lNil ?_
    refine kThen ?_
    refine kSeq ?_
    refine split (t := 271) rfl (fun h271 => ?_) (fun h271 => ?_)
    · refine kIfT rfl ?_
      refine kSkip ?_
      refine kThen ?_
      refine kSeq ?_
      refine kBlock ?_
      refine kSeq ?_
      refine kRegion rfl ?_
      refine lV (yMove rfl) rfl rfl ?_
      refine lV (yAssign rfl) rfl rfl ?_
      refine lNil ?_
      refine kThen ?_
      refine kSeq ?_
      refine kSeq ?_
      refine kDrawE [(1, none), (3, none), (4, none), (7, none), (8, none)] [] [0, 1, 2, 3, 4, 5, 6, 7, 8, 9] 0 hMix (by kernel_rfl) ?_
      refine .run rfl (yFieldAddr rfl F26_1) rfl rfl ?_
      refine .run rfl (yLoad1 rfl O24 (cOwn 0 rfl rfl)) rfl rfl ?_
      refine .run rfl (yMove rfl) rfl rfl ?_
      refine .run rfl (yIndexS  rfl rfl S24 (hm.r) ((by omega))) rfl rfl ?_
      refine .run rfl (yLoadA (vs := [_, _, _, _, _, _, _, _, _]) rfl A58 (cSl0 (hm.r) ((by omega)) rfl)) rfl rfl ?_
      refine .run rfl (yMove rfl) rfl rfl ?_
      refine .run rfl (yMove rfl) rfl rfl ?_
      refine .run rfl (yIndexS  rfl rfl S24 ((fun w hw => OS.rowsE (f := rowS) star0 hg0 ((hw.sub (.d 0 (.d 0 .r))).sub hyB) .r)) ((by omega))) rfl rfl ?_
      refine .run rfl (yLoadA (vs := [_, _, _, _, _, _, _, _, _]) rfl A58 (cSl0 ((fun w hw => OS.rowsE (f := rowS) star0 hg0 ((hw.sub (.d 0 (.d 0 .r))).sub hyB) .r)) ((by omega)) rfl)) rfl rfl ?_
      refine .run rfl (yvIs (c := false) (yNeAgg rfl rfl G58 (fun w => Q58 w)) (by simp)) rfl rfl ?_
      refine .done ?_
      refine effDone closedSt (hLeft [1, 3, 4, 7, 8] (by kernel_rfl) (.c (fun _ _ hs => hs.ef) (.c (fun _ _ hs => hs.ef) (.c (fun _ _ hs => hs.ef) (.c (fun _ _ hs => hs.ef) (.c (fun _ _ hs => hs.ef) .n)))))) (by kernel_rfl) ?_
      refine kThen ?_
      refine kIfF rfl ?_
      refine kSkip ?_
      refine kThen ?_
      refine kSeq ?_
      obtain ⟨r, hr⟩ : ∃ r, r = starE p (z : Nat) := ⟨_, rfl⟩
      have hL := poorL hp (z := z) (by omega)
      have hbd := star_bd hp (z : Nat)
      rw [← hr] at hbd hL
      rw [← hq] at hL
      unfold B60 at hbd
      have hLw := hL.w
      refine kRegion rfl ?_
      refine lV (yLoadA (vs := [_, _, _]) rfl A26 (cOwn 0 rfl rfl)) rfl rfl ?_
      refine lV (yMove rfl) rfl rfl ?_
      refine lV (yCall rfl (.c rfl (.c rfl .n)) C19 (fun w hw => star_any y p (z : Nat) w (hm.eff0 hw) hL6)) rfl rfl ?_
      refine same (t := 286) (u := .tuple [.agg [i64 r.1.1, i64 r.1.2].toArray, .agg [i64 r.2.1.1, i64 r.2.1.2].toArray, i64 r.2.2].toArray) rfl (by rw [← hr]) ?_
      refine lV (yMove rfl) rfl rfl ?_
      refine lV (yExtract rfl rfl) rfl rfl ?_
      refine lV (yExtract rfl rfl) rfl rfl ?_
      refine lV (yExtract rfl rfl) rfl rfl ?_
      refine lE rfl ?_
      refine eAlloc Z23 fun n33 => ?_
      refine lE rfl ?_
      refine eAlloc Z23 fun n34 => ?_
      refine lE rfl ?_
      refine eStoreL 1 rfl rfl rfl rfl K23 rfl (rfl) ?_
      refine lE rfl ?_
      refine eStoreL 0 rfl rfl rfl rfl K23 rfl (rfl) ?_
      refine lV (yAssign rfl) rfl rfl ?_
      refine lNil ?_
      refine kThen ?_
      refine kSeq ?_
      refine kRegion rfl ?_
      refine lV (yFieldAddr rfl F23_1) rfl rfl ?_
      refine lV (yLoad1 rfl O3 (cOwn 1 rfl rfl)) rfl rfl ?_
      refine lV (yFieldAddr rfl F23_0) rfl rfl ?_
      refine lV (yLoad1 rfl O3 (cOwn 1 rfl rfl)) rfl rfl ?_
      refine lV (ySub rfl rfl (by omega)) rfl rfl ?_
      refine lV (yFieldAddr rfl F23_1) rfl rfl ?_
      refine lV (yLoad1 rfl O3 (cOwn 0 rfl rfl)) rfl rfl ?_
      refine lV (yAdd rfl rfl (by omega)) rfl rfl ?_
      refine lV (yFieldAddr rfl F23_0) rfl rfl ?_
      refine lV (yLoad1 rfl O3 (cOwn 0 rfl rfl)) rfl rfl ?_
      refine lV (ySub rfl rfl (by omega)) rfl rfl ?_
      refine lV (yAssign rfl) rfl rfl ?_
      refine lNil ?_
      refine kThen ?_
      refine kSeq ?_
      refine kRegion rfl ?_
      refine lV (yMove rfl) rfl rfl ?_
      refine lV (yMove rfl) rfl rfl ?_
      refine lV (yNeq rfl rfl) rfl rfl ?_
      refine knownB (t := 303) (c := false) rfl (by rw [hL.e]; simp) ?_
      refine lV (yMove rfl) rfl rfl ?_
      refine lGY rfl rfl rfl (oV (yMove rfl) rfl ?_)
      refine lGY rfl rfl rfl (oV (yEql rfl rfl) rfl ?_)
      refine split (t := 306) rfl (fun h306 => ?_) (fun h306 => ?_)
      · refine lGY rfl rfl rfl (oV (yMove rfl) rfl ?_)
        refine lGY rfl rfl rfl (oV (yMove rfl) rfl ?_)
        refine lGY rfl rfl rfl (oV (yMove rfl) rfl ?_)
        refine lGY rfl rfl rfl (oV (yGtr rfl rfl) rfl ?_)
        refine knownN (t := 310) rfl (by omega) ?_
        refine lGY rfl rfl rfl (oV (yMove rfl) rfl ?_)
        refine lGY rfl rfl rfl (oV (yMove rfl) rfl ?_)
        refine lGY rfl rfl rfl (oV (yMove rfl) rfl ?_)
        refine lGY rfl rfl rfl (oV (yEql rfl rfl) rfl ?_)
        refine split (t := 314) rfl (fun h314 => ?_) (fun h314 => ?_)
        · refine lGY rfl rfl rfl (oV (yMove rfl) rfl ?_)
          refine lGY rfl rfl rfl (oV (yMove rfl) rfl ?_)
          refine lGY rfl rfl rfl (oV (yMove rfl) rfl ?_)
          refine lGY rfl rfl rfl (oV (yLss rfl rfl) rfl ?_)
          refine knownN (t := 318) rfl (by omega) ?_
          refine lGY rfl rfl rfl (oV (yPickT rfl rfl) rfl ?_)
          refine lGY rfl rfl rfl (oV (yPickF rfl rfl) rfl ?_)
          refine lGY rfl rfl rfl (oV (yMove rfl) rfl ?_)
          refine lGY rfl rfl rfl (oV (yMove rfl) rfl ?_)
          refine lGY rfl rfl rfl (oV (yMove rfl) rfl ?_)
          refine lGY rfl rfl rfl (oV (yEql rfl rfl) rfl ?_)
          refine split (t := 324) rfl (fun h324 => ?_) (fun h324 => ?_)
          · refine lGY rfl rfl rfl (oV (yMove rfl) rfl ?_)
            refine lGY rfl rfl rfl (oV (yMove rfl) rfl ?_)
            refine lGY rfl rfl rfl (oV (yMove rfl) rfl ?_)
            refine lGY rfl rfl rfl (oV (yNeq rfl rfl) rfl ?_)
            refine knownN (t := 328) rfl (by omega) ?_
            refine lGY rfl rfl rfl (oV (yPickT rfl rfl) rfl ?_)
            refine lGY rfl rfl rfl (oV (yPickF rfl rfl) rfl ?_)
            refine lGY rfl rfl rfl (oV (yPickT rfl rfl) rfl ?_)
            refine lV (yPickF rfl rfl) rfl rfl ?_
            refine lNil ?_
            refine kThen ?_
            refine kIfF rfl ?_
            refine kSkip ?_
            refine kInN ?_
            refine kThen ?_
            refine kRegion rfl ?_
            refine lV (yAdd rfl rfl (by omega)) rfl rfl ?_
            refine lV (yMove rfl) rfl rfl ?_
            refine lNil ?_
            exact kRoundX (z + 1) (by omega) (by omega) rfl (.c rfl .n) (.c rfl (.c rfl (.c rfl (.c rfl (.c rfl (.c rfl (.c rfl (.c rfl (.c rfl (.c rfl (.c rfl (.c rfl (.c rfl (.c rfl (.c rfl .n))))))))))))))) (.c 2 rfl (.c 2 rfl (.d 0 (.d 0 .r))))
          · refine lGY rfl rfl rfl (oV (yMove rfl) rfl ?_)
            refine lGN rfl rfl rfl rfl rfl ?_
            refine lGN rfl rfl rfl rfl rfl ?_
            refine lGN rfl rfl rfl rfl rfl ?_
            refine lGY rfl rfl rfl (oV (yPickF rfl rfl) rfl ?_)
            refine lGY rfl rfl rfl (oV (yPickF rfl rfl) rfl ?_)
            refine lGY rfl rfl rfl (oV (yPickT rfl rfl) rfl ?_)
            refine lV (yPickF rfl rfl) rfl rfl ?_
            refine lNil ?_
            refine kThen ?_
            refine kIfF rfl ?_
            refine kSkip ?_
            refine kInN ?_
            refine kThen ?_
            refine kRegion rfl ?_
            refine lV (yAdd rfl rfl (by omega)) rfl rfl ?_
            refine lV (yMove rfl) rfl rfl ?_
            refine lNil ?_
            exact kRoundX (z + 1) (by omega) (by omega) rfl (.c rfl .n) (.c rfl (.c rfl (.c rfl (.c rfl (.c rfl (.c rfl (.c rfl (.c rfl (.c rfl (.c rfl (.c rfl (.c rfl (.c rfl (.c rfl (.c rfl .n))))))))))))))) (.c 2 rfl (.c 2 rfl (.d 0 (.d 0 .r))))
        · refine lGY rfl rfl rfl (oV (yMove rfl) rfl ?_)
          refine lGN rfl rfl rfl rfl rfl ?_
          refine lGN rfl rfl rfl rfl rfl ?_
          refine lGN rfl rfl rfl rfl rfl ?_
          refine lGY rfl rfl rfl (oV (yPickF rfl rfl) rfl ?_)
          refine lGY rfl rfl rfl (oV (yPickF rfl rfl) rfl ?_)
          refine lGY rfl rfl rfl (oV (yMove rfl) rfl ?_)
          refine lGY rfl rfl rfl (oV (yMove rfl) rfl ?_)
          refine lGY rfl rfl rfl (oV (yMove rfl) rfl ?_)
          refine lGY rfl rfl rfl (oV (yEql rfl rfl) rfl ?_)
          refine split (t := 324) rfl (fun h324 => ?_) (fun h324 => ?_)
          · refine lGY rfl rfl rfl (oV (yMove rfl) rfl ?_)
            refine lGY rfl rfl rfl (oV (yMove rfl) rfl ?_)
            refine lGY rfl rfl rfl (oV (yMove rfl) rfl ?_)
            refine lGY rfl rfl rfl (oV (yNeq rfl rfl) rfl ?_)
            refine knownN (t := 328) rfl (by omega) ?_
            refine lGY rfl rfl rfl (oV (yPickT rfl rfl) rfl ?_)
            refine lGY rfl rfl rfl (oV (yPickF rfl rfl) rfl ?_)
            refine lGY rfl rfl rfl (oV (yPickT rfl rfl) rfl ?_)
            refine lV (yPickF rfl rfl) rfl rfl ?_
            refine lNil ?_
            refine kThen ?_
            refine kIfF rfl ?_
            refine kSkip ?_
            refine kInN ?_
            refine kThen ?_
            refine kRegion rfl ?_
            refine lV (yAdd rfl rfl (by omega)) rfl rfl ?_
            refine lV (yMove rfl) rfl rfl ?_
            refine lNil ?_
            exact kRoundX (z + 1) (by omega) (by omega) rfl (.c rfl .n) (.c rfl (.c rfl (.c rfl (.c rfl (.c rfl (.c rfl (.c rfl (.c rfl (.c rfl (.c rfl (.c rfl (.c rfl (.c rfl (.c rfl (.c rfl .n))))))))))))))) (.c 2 rfl (.c 2 rfl (.d 0 (.d 0 .r))))
          · refine lGY rfl rfl rfl (oV (yMove rfl) rfl ?_)
            refine lGN rfl rfl rfl rfl rfl ?_
            refine lGN rfl rfl rfl rfl rfl ?_
            refine lGN rfl rfl rfl rfl rfl ?_
            refine lGY rfl rfl rfl (oV (yPickF rfl rfl) rfl ?_)
            refine lGY rfl rfl rfl (oV (yPickF rfl rfl) rfl ?_)
            refine lGY rfl rfl rfl (oV (yPickT rfl rfl) rfl ?_)
            refine lV (yPickF rfl rfl) rfl rfl ?_
            refine lNil ?_
            refine kThen ?_
            refine kIfF rfl ?_
            refine kSkip ?_
            refine kInN ?_
            refine kThen ?_
            refine kRegion rfl ?_
            refine lV (yAdd rfl rfl (by omega)) rfl rfl ?_
            refine lV (yMove rfl) rfl rfl ?_
            refine lNil ?_
            exact kRoundX (z + 1) (by omega) (by omega) rfl (.c rfl .n) (.c rfl (.c rfl (.c rfl (.c rfl (.c rfl (.c rfl (.c rfl (.c rfl (.c rfl (.c rfl (.c rfl (.c rfl (.c rfl (.c rfl (.c rfl .n))))))))))))))) (.c 2 rfl (.c 2 rfl (.d 0 (.d 0 .r))))
      · refine lGY rfl rfl rfl (oV (yMove rfl) rfl ?_)
        refine lGN rfl rfl rfl rfl rfl ?_
        refine lGN rfl rfl rfl rfl rfl ?_
        refine lGN rfl rfl rfl rfl rfl ?_
        refine lGN rfl rfl rfl rfl rfl ?_
        refine lGU rfl rfl rfl rfl ?_
        refine lGU rfl rfl rfl rfl ?_
        refine lGU rfl rfl rfl rfl ?_
        refine lGU rfl rfl rfl rfl ?_
        refine lGU rfl rfl rfl rfl ?_
        refine lGU rfl rfl rfl rfl ?_
        refine lGU rfl rfl rfl rfl ?_
        refine lGU rfl rfl rfl rfl ?_
        refine lGN rfl rfl rfl rfl rfl ?_
        refine lGN rfl rfl rfl rfl rfl ?_
        refine lGU rfl rfl rfl rfl ?_
        refine lGU rfl rfl rfl rfl ?_
        refine lGU rfl rfl rfl rfl ?_
        refine lGU rfl rfl rfl rfl ?_
        refine lGU rfl rfl rfl rfl ?_
        refine lGU rfl rfl rfl rfl ?_
        refine lGU rfl rfl rfl rfl ?_
        refine lGU rfl rfl rfl rfl ?_
        refine lGN rfl rfl rfl rfl rfl ?_
        refine lGY rfl rfl rfl (oV (yPickF rfl rfl) rfl ?_)
        refine lV (yPickF rfl rfl) rfl rfl ?_
        refine lNil ?_
        refine kThen ?_
        refine kIfF rfl ?_
        refine kSkip ?_
        refine kInN ?_
        refine kThen ?_
        refine kRegion rfl ?_
        refine lV (yAdd rfl rfl (by omega)) rfl rfl ?_
        refine lV (yMove rfl) rfl rfl ?_
        refine lNil ?_
        exact kRoundX (z + 1) (by omega) (by omega) rfl (.c rfl .n) (.c rfl (.c rfl (.c rfl (.c rfl (.c rfl (.c rfl (.c rfl (.c rfl (.c rfl (.c rfl (.c rfl (.c rfl (.c rfl (.c rfl (.c rfl .n))))))))))))))) (.c 2 rfl (.c 2 rfl (.d 0 (.d 0 .r))))
    · refine kIfF rfl ?_
      refine kExit ?_
      refine kThenX ?_
      refine kThenX ?_
      refine kInX ?_
      refine kThen ?_
      refine kSeq ?_
      refine kRegion rfl ?_
      refine lV (yMove rfl) rfl rfl ?_
      refine lV (yNeq rfl rfl) rfl rfl ?_
      refine split (t := 335) rfl (fun h335 => ?_) (fun h335 => ?_)
      · refine lV (yMove rfl) rfl rfl ?_
        refine lGN rfl rfl rfl rfl rfl ?_
        refine lGN rfl rfl rfl rfl rfl ?_
        refine lGN rfl rfl rfl rfl rfl ?_
        refine lGU rfl rfl rfl rfl ?_
        refine lGU rfl rfl rfl rfl ?_
        refine lGU rfl rfl rfl rfl ?_
        refine lGN rfl rfl rfl rfl rfl ?_
        refine lV (yPickT rfl rfl) rfl rfl ?_
        refine lV (yMove rfl) rfl rfl ?_
        refine lGY rfl rfl rfl (oV (yMove rfl) rfl ?_)
        refine lGY rfl rfl rfl (oV (yEql rfl rfl) rfl ?_)
        refine split (t := 347) rfl (fun h347 => ?_) (fun h347 => ?_)
        · refine lGY rfl rfl rfl (oV (yMove rfl) rfl ?_)
          refine lGN rfl rfl rfl rfl rfl ?_
          refine lGN rfl rfl rfl rfl rfl ?_
          refine lGN rfl rfl rfl rfl rfl ?_
          refine lGU rfl rfl rfl rfl ?_
          refine lGU rfl rfl rfl rfl ?_
          refine lGN rfl rfl rfl rfl rfl ?_
          refine lGY rfl rfl rfl (oV (yPickT rfl rfl) rfl ?_)
          refine lV (yPickT rfl rfl) rfl rfl ?_
          refine lV (yMove rfl) rfl rfl ?_
          refine lGY rfl rfl rfl (oV (yCall rfl .n C14 (fun w hw => alive_any w)) rfl ?_)
          refine lV (yPickT rfl rfl) rfl rfl ?_
          refine lV (yAssign rfl) rfl rfl ?_
          refine lNil ?_
          refine kThen ?_
          refine kRet ?_
          refine fRet rfl (.t rfl .n) (endRet ?_)
          rfl
        · refine lGY rfl rfl rfl (oV (yMove rfl) rfl ?_)
          refine lGY rfl rfl rfl (oV (yMove rfl) rfl ?_)
          refine lGY rfl rfl rfl (oV (yEql rfl rfl) rfl ?_)
          refine known (t := 350) rfl (by omega) ?_
          refine lGY rfl rfl rfl (oV (yMove rfl) rfl ?_)
          refine lGY rfl rfl rfl (oV (yMove rfl) rfl ?_)
          refine lGY rfl rfl rfl (oV (yEql rfl rfl) rfl ?_)
          refine known (t := 353) rfl (by omega) ?_
          refine lGY rfl rfl rfl (oV (yPickT rfl rfl) rfl ?_)
          refine lGY rfl rfl rfl (oV (yPickF rfl rfl) rfl ?_)
          refine lV (yPickT rfl rfl) rfl rfl ?_
          refine lV (yMove rfl) rfl rfl ?_
          refine lGY rfl rfl rfl (oV (yCall rfl .n C14 (fun w hw => alive_any w)) rfl ?_)
          refine lV (yPickT rfl rfl) rfl rfl ?_
          refine lV (yAssign rfl) rfl rfl ?_
          refine lNil ?_
          refine kThen ?_
          refine kRet ?_
          refine fRet rfl (.t rfl .n) (endRet ?_)
          rfl
      · refine lV (yMove rfl) rfl rfl ?_
        refine lGY rfl rfl rfl (oV (yMove rfl) rfl ?_)
        refine lGY rfl rfl rfl (oV (yGeq rfl rfl) rfl ?_)
        refine known (t := 338) rfl (by omega) ?_
        refine lGY rfl rfl rfl (oV (yMove rfl) rfl ?_)
        refine lGY rfl rfl rfl (oV (yMove rfl) rfl ?_)
        refine lGY rfl rfl rfl (oV (yMove rfl) rfl ?_)
        refine lGY rfl rfl rfl (oV (yLss rfl rfl) rfl ?_)
        refine known (t := 342) rfl (by omega) ?_
        refine lGY rfl rfl rfl (oV (yPickT rfl rfl) rfl ?_)
        refine lV (yPickF rfl rfl) rfl rfl ?_
        refine lV (yMove rfl) rfl rfl ?_
        refine lGY rfl rfl rfl (oV (yMove rfl) rfl ?_)
        refine lGY rfl rfl rfl (oV (yEql rfl rfl) rfl ?_)
        refine split (t := 347) rfl (fun h347 => ?_) (fun h347 => ?_)
        · refine lGY rfl rfl rfl (oV (yMove rfl) rfl ?_)
          refine lGN rfl rfl rfl rfl rfl ?_
          refine lGN rfl rfl rfl rfl rfl ?_
          refine lGN rfl rfl rfl rfl rfl ?_
          refine lGU rfl rfl rfl rfl ?_
          refine lGU rfl rfl rfl rfl ?_
          refine lGN rfl rfl rfl rfl rfl ?_
          refine lGY rfl rfl rfl (oV (yPickT rfl rfl) rfl ?_)
          refine lV (yPickT rfl rfl) rfl rfl ?_
          refine lV (yMove rfl) rfl rfl ?_
          refine lGY rfl rfl rfl (oV (yCall rfl .n C14 (fun w hw => alive_any w)) rfl ?_)
          refine lV (yPickT rfl rfl) rfl rfl ?_
          refine lV (yAssign rfl) rfl rfl ?_
          refine lNil ?_
          refine kThen ?_
          refine kRet ?_
          refine fRet rfl (.t rfl .n) (endRet ?_)
          rfl
        · refine lGY rfl rfl rfl (oV (yMove rfl) rfl ?_)
          refine lGY rfl rfl rfl (oV (yMove rfl) rfl ?_)
          refine lGY rfl rfl rfl (oV (yEql rfl rfl) rfl ?_)
          refine known (t := 350) rfl (by omega) ?_
          refine lGY rfl rfl rfl (oV (yMove rfl) rfl ?_)
          refine lGY rfl rfl rfl (oV (yMove rfl) rfl ?_)
          refine lGY rfl rfl rfl (oV (yEql rfl rfl) rfl ?_)
          refine known (t := 353) rfl (by omega) ?_
          refine lGY rfl rfl rfl (oV (yPickT rfl rfl) rfl ?_)
          refine lGY rfl rfl rfl (oV (yPickF rfl rfl) rfl ?_)
          refine lV (yPickT rfl rfl) rfl rfl ?_
          refine lV (yMove rfl) rfl rfl ?_
          refine lGY rfl rfl rfl (oV (yCall rfl .n C14 (fun w hw => alive_any w)) rfl ?_)
          refine lV (yPickT rfl rfl) rfl rfl ?_
          refine lV (yAssign rfl) rfl rfl ?_
          refine lNil ?_
          refine kThen ?_
          refine kRet ?_
          refine fRet rfl (.t rfl .n) (endRet ?_)
          rfl
theorem pturned_any (y : Option Addr × Nat) (p : Plt) (a b : Int) (w : World) (hm : InP w y p) (ha : In64 a) :
    Calls Try.prog 11 [.agg (pltC y p).toArray, i64 a, i64 b].toArray w (Ret w (.bool true)) := by
  by_cases hp : PltOk p
  · exact pturned_ok y p a b w hm hp ha
  · exact pturned_bad y p a b w hm hp
end Go.Proofs.Ytlcdohhhhlhpmaa
