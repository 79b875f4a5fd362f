/-
  Walks: PlateMoved.
-/
import Derived.Test.YtlcdohhhhlhpmaaFa
import Derived.Test.YtlcdohhhhlhpmaaEb
namespace Go.Proofs.Ytlcdohhhhlhpmaa
open ZW

def B60 (x : Int × Int) : Prop := (-1000000000000000 ≤ x.1 ∧ x.1 ≤ 1000000000000000) ∧ -1000000000000000 ≤ x.2 ∧ x.2 ≤ 1000000000000000
theorem star_bd {p : Plt} (hp : PltOk p) (n : Int) : B60 (starE p n).1 ∧ B60 (starE p n).2.1 := by
  unfold starE
  by_cases h : toldE p (isStarB p n) = 0
  · rw [if_neg (not_not_intro h)]
    obtain ⟨_, _, _, k, rfl, hk⟩ := star_fine h
    have h1 := starH_bd hp hk false
    have h2 := starH_bd hp hk true
    unfold spanE B60
    simp only [Int.toNat_natCast]
    omega
  · rw [if_pos h]
    unfold B60
    dsimp only
    omega
theorem zero_bd {p : Plt} : B60 (zeroE p).1 ∧ B60 (zeroE p).2.1 := by
  unfold zeroE
  by_cases h : toldE p true = 0
  · rw [if_neg (not_not_intro h)]
    have key : ∀ d, ∀ x ∈ (scalesP p (knownP p)).flatMap (zeroG p d), -1099511627776 ≤ x ∧ x ≤ 1099511627776 := fun d x hx => by
      obtain ⟨s, hs, hx⟩ := List.mem_flatMap.1 hx
      have := corn_bd (scalesP_mem.1 hs).2 d
      unfold zeroG at hx
      simp only [List.mem_cons, List.not_mem_nil, or_false] at hx
      rcases hx with rfl | rfl
      · omega
      · omega
    have h1 := hullE_bd (B := 1099511627776) (by omega) (key false)
    have h2 := hullE_bd (B := 1099511627776) (by omega) (key true)
    unfold spanE B60
    dsimp only
    omega
  · rw [if_pos h]
    unfold B60
    dsimp only
    omega
theorem find_sky {p : Plt} {e n : Int} (hp : PltOk p) (h : ¬ (findE p e n).2.2 = 2) : isSkyB e = true ∧ isSkyB n = true := by
  rw [← Bool.and_eq_true]
  cases hb : (isSkyB e && isSkyB n) with
  | true => rfl
  | false =>
    refine absurd ?_ h
    unfold findE
    have : toldE p (isSkyB e && isSkyB n) = 2 := by
      unfold toldE truthE
      rw [hb, if_neg (not_not_intro hp), if_pos rfl, if_pos (by decide)]
    rw [this, if_pos (by decide)]

theorem i16_in {b : Int} (h : -32768 ≤ b ∧ b ≤ 32767) : In64 b := ⟨by omega, by omega⟩
theorem sky_add {e b : Int} (h : -1048576 ≤ e ∧ e ≤ 1048576) (hb : -32768 ≤ b ∧ b ≤ 32767) : In64 (e + b) := ⟨by omega, by omega⟩
set_option maxRecDepth 100000 in
theorem movOn_any (s : Int × Int) (b : Int) (w : World) (hs : B60 s) (hb : -32768 ≤ b ∧ b ≤ 32767) : Calls Try.prog 45 [.agg (rowE s).toArray, .int .i16 b].toArray w (Ret w (.agg (rowE (s.1 + b, s.2 + b)).toArray)) := by
  unfold B60 at hs
  refine fEnter Try.func45 rfl Try.ntmps45 rfl ?_
  refine kSeq ?_
  refine kRegion rfl ?_
  refine lE rfl ?_
  refine eBoxA rfl fun n2 => ?_
  refine lE rfl ?_
  refine eAlloc Z23 fun n4 => ?_
  refine lNil ?_
  refine kThen ?_
  refine kSeq ?_
  refine kRegion rfl ?_
  refine lV (yFieldAddr rfl F23_0) rfl rfl ?_
  refine lV (yLoad1 rfl O3 (cOwn 1 rfl rfl)) rfl rfl ?_
  refine lV (yMove rfl) rfl rfl ?_
  refine lV (yConvInt rfl U67 U3 (IntWalk.i64_in _ (i16_in hb))) rfl rfl ?_
  refine lV (yAdd rfl rfl (by omega)) rfl rfl ?_
  refine lV (yFieldAddr rfl F23_1) rfl rfl ?_
  refine lV (yLoad1 rfl O3 (cOwn 1 rfl rfl)) rfl rfl ?_
  refine lV (yMove rfl) rfl rfl ?_
  refine lV (yConvInt rfl U67 U3 (IntWalk.i64_in _ (i16_in hb))) rfl rfl ?_
  refine lV (yAdd rfl rfl (by omega)) rfl rfl ?_
  refine lV (yCall rfl (.c rfl (.c rfl .n)) C34 (fun w hw => spanL_any _ _ w)) rfl rfl ?_
  refine lE rfl ?_
  refine eStoreL 0 rfl rfl rfl rfl K23 rfl (rfl) ?_
  refine lNil ?_
  refine kThen ?_
  refine kRet ?_
  refine fRet rfl (.cA (us := [_, _]) rfl A23 (cOwn 0 rfl rfl) .n) (endRet ?_)
  rfl
def movT (st : List StarV) (b t : Int) (n : Nat) : List StarV := (List.range n).foldl (fun l i => l.set i (movS b t (l.getD i star0))) st
theorem movT_succ (st : List StarV) (b t : Int) (n : Nat) : movT st b t (n + 1) = (movT st b t n).set n (movS b t ((movT st b t n).getD n star0)) := range_foldl_succ _ _ _
theorem movT_len (st : List StarV) (b t : Int) : ∀ n, (movT st b t n).length = st.length
  | 0 => rfl
  | n + 1 => by rw [movT_succ, List.length_set]; exact movT_len st b t n
theorem movT_get (st : List StarV) (b t : Int) {i : Nat} (hi : i < st.length) : ∀ n, (movT st b t n).getD i star0 = if i < n then movS b t (st.getD i star0) else st.getD i star0
  | 0 => by rw [if_neg (by omega)]; rfl
  | n + 1 => by
    have ih := movT_get st b t hi n
    rw [movT_succ]
    by_cases h : i = n
    · subst h
      rw [List.getD_eq_getElem?_getD, List.getElem?_set_self (by rw [movT_len]; exact hi), Option.getD_some, if_pos (by omega), ih, if_neg (by omega)]
    · rw [List.getD_eq_getElem?_getD, List.getElem?_set_ne (Ne.symm h), ← List.getD_eq_getElem?_getD, ih]
      by_cases h2 : i < n
      · rw [if_pos h2, if_pos (by omega)]
      · rw [if_neg h2, if_neg (by omega)]
theorem movT_at (st : List StarV) (b t : Int) {i : Nat} (hi : i < st.length) : (movT st b t i).getD i star0 = st.getD i star0 := by rw [movT_get st b t hi, if_neg (by omega)]
theorem movT_all (st : List StarV) (b t : Int) : movT st b t st.length = st.map (movS b t) := by
  refine List.ext_getElem (by rw [movT_len, List.length_map]) fun i h1 h2 => ?_
  rw [List.length_map] at h2
  rw [List.getElem_eq_getD (h := h1) star0, movT_get st b t h2, if_pos h2, List.getElem_map, List.getElem_eq_getD (h := h2) star0]
theorem movT_not (st : List StarV) (b t : Int) {i : Nat} (hi : i < st.length) (hk : (st.getD i star0).k = false) : movT st b t (i + 1) = movT st b t i := by
  rw [movT_succ, movT_at st b t hi, movS_not hk, ← movT_at st b t hi, ← List.getElem_eq_getD (h := by rw [movT_len]; exact hi)]
  exact List.set_getElem_self _
theorem movT_yes (st : List StarV) (b t : Int) {i : Nat} (hi : i < st.length) (hk : (st.getD i star0).k = true) :
    (movT st b t (i + 1)).map rowS = (((movT st b t i).map rowS).set i (wr (((movT st b t i).map rowS).getD i []) 5 (rowE ((st.getD i star0).e.1 + b, (st.getD i star0).e.2 + b)))).set i (wr ((((movT st b t i).map rowS).set i (wr (((movT st b t i).map rowS).getD i []) 5 (rowE ((st.getD i star0).e.1 + b, (st.getD i star0).e.2 + b)))).getD i []) 7 (rowE ((st.getD i star0).n.1 + t, (st.getD i star0).n.2 + t))) := by
  have hl : i < ((movT st b t i).map rowS).length := by rw [List.length_map, movT_len]; exact hi
  have hg : ∀ (l : List (List Value)) (x : List Value), i < l.length → (l.set i x).getD i [] = x := fun l x h => by rw [List.getD_eq_getElem?_getD, List.getElem?_set_self h]; rfl
  rw [hg _ _ hl, List.set_set, movT_succ, List.map_set, movT_at st b t hi]
  congr 1
  rw [map_getD (by rw [movT_len]; exact hi) star0, movT_at st b t hi]
  unfold movS
  rw [if_pos hk]
  rfl

set_option maxRecDepth 100000 in
set_option maxHeartbeats 4000000 in
theorem pmoved_bad (y : Option Addr × Nat) (p : Plt) (i k e n b t : Int) (w : World) (hm : InP w y p) (hp : ¬ PltOk p) :
    Calls Try.prog 10 [.agg (pltC y p).toArray, i64 i, i64 k, i64 e, i64 n, .int .i16 b, .int .i16 t].toArray w (Ret w (.bool true)) := by
  refine fEnter Try.func10 rfl Try.ntmps10 rfl ?_
  refine kSeq ?_
  refine kRegion rfl ?_
  refine lE rfl ?_
  refine eBoxA rfl fun n7 => ?_
  refine lV (yAssign rfl) rfl rfl ?_
  refine lNil ?_
  refine kThen ?_
  refine kSeq ?_
  refine kSeq ?_
  refine kRegion rfl ?_
  refine lV (yFieldAddr rfl F26_1) rfl rfl ?_
  refine lV (yLoad1 rfl O24 (cOwn 0 rfl rfl)) rfl rfl ?_
  refine lV (yLen rfl S24) rfl rfl ?_
  refine lV (yGtr rfl rfl) rfl rfl ?_
  refine lV (yMove rfl) rfl rfl ?_
  refine split (t := 37) rfl (fun h37 => ?_) (fun h37 => ?_)
  · refine lGN rfl rfl rfl rfl rfl ?_
    refine lGN rfl rfl rfl rfl rfl ?_
    refine lGN rfl rfl rfl rfl rfl ?_
    refine lV (yPickT rfl rfl) rfl rfl ?_
    refine lNil ?_
    refine kThen ?_
    refine kIfT rfl ?_
    refine kSeq ?_
    refine kRegion rfl ?_
    refine lV (yCall rfl .n C14 (fun w hw => alive_any w)) rfl rfl ?_
    refine lV (yAssign rfl) rfl rfl ?_
    refine lNil ?_
    refine kThen ?_
    refine kRet ?_
    refine kThenR ?_
    refine fRet rfl (.t rfl .n) (endRet ?_)
    rfl
  · refine lGY rfl rfl rfl (oV (yLoadA (vs := [_, _, _]) rfl A26 (cOwn 0 rfl rfl)) rfl ?_)
    refine lGY rfl rfl rfl (oV (yCall rfl (.c rfl .n) C23 (fun w hw => rplate_any y p w (hm.eff0 hw) (by omega))) rfl ?_)
    refine knownB (t := 39) (c := false) rfl (decide_eq_false hp) ?_
    refine lGY rfl rfl rfl (oV (yNot rfl) rfl ?_)
    refine lV (yPickF rfl rfl) rfl rfl ?_
    refine lNil ?_
    refine kThen ?_
    refine kIfT rfl ?_
    refine kSeq ?_
    refine kRegion rfl ?_
    refine lV (yCall rfl .n C14 (fun w hw => alive_any w)) rfl rfl ?_
    refine lV (yAssign rfl) rfl rfl ?_
    refine lNil ?_
    refine kThen ?_
    refine kRet ?_
    refine kThenR ?_
    refine fRet rfl (.t rfl .n) (endRet ?_)
    rfl

set_option maxRecDepth 100000 in
set_option maxHeartbeats 8000000 in
theorem pmoved_ok (y : Option Addr × Nat) (p : Plt) (i k e n b t : Int) (w : World) (hm : InP w y p) (hp : PltOk p) (hb : -32768 ≤ b ∧ b ≤ 32767) (ht : -32768 ≤ t ∧ t ≤ 32767) :
    Calls Try.prog 10 [.agg (pltC y p).toArray, i64 i, i64 k, i64 e, i64 n, .int .i16 b, .int .i16 t].toArray w (Ret w (.bool true)) := by
  have hl10 := hp.n
  have hml := mov_len p b t
  have hL6 : p.st.length ≤ 1000000 := by omega
  have hL6q : (movP p b t).st.length ≤ 1000000 := by omega
  refine fEnter Try.func10 rfl Try.ntmps10 rfl ?_
  refine kSeq ?_
  refine kRegion rfl ?_
  refine lE rfl ?_
  refine eBoxA rfl fun n7 => ?_
  refine lV (yAssign rfl) rfl rfl ?_
  refine lNil ?_
  refine kThen ?_
  refine kSeq ?_
  refine kSeq ?_
  refine kRegion rfl ?_
  refine lV (yFieldAddr rfl F26_1) rfl rfl ?_
  refine lV (yLoad1 rfl O24 (cOwn 0 rfl rfl)) rfl rfl ?_
  refine lV (yLen rfl S24) rfl rfl ?_
  refine lV (yGtr rfl rfl) rfl rfl ?_
  refine knownN (t := 36) rfl (by omega) ?_
  refine lV (yMove rfl) rfl rfl ?_
  refine lGY rfl rfl rfl (oV (yLoadA (vs := [_, _, _]) rfl A26 (cOwn 0 rfl rfl)) rfl ?_)
  refine lGY rfl rfl rfl (oV (yCall rfl (.c rfl .n) C23 (fun w hw => rplate_any y p w (hm.eff0 hw) (by omega))) rfl ?_)
  refine knownB (t := 39) (c := true) rfl (decide_eq_true hp) ?_
  refine lGY rfl rfl rfl (oV (yNot rfl) rfl ?_)
  refine lV (yPickF rfl rfl) rfl rfl ?_
  refine lNil ?_
  refine kThen ?_
  refine kIfF rfl ?_
  refine kSkip ?_
  refine kThen ?_
  refine kSeq ?_
  refine kRegion rfl ?_
  refine lV (yAssign rfl) rfl rfl ?_
  refine lNil ?_
  refine kThen ?_
  refine kSeq ?_
  refine kRegion rfl ?_
  refine lV (yLoadA (vs := [_, _, _]) rfl A26 (cOwn 0 rfl rfl)) rfl rfl ?_
  refine lE rfl ?_
  refine eAlloc Z26 fun n16 => ?_
  refine lE rfl ?_
  refine eStoreL 0 rfl rfl rfl rfl K26 rfl (rfl) ?_
  refine lNil ?_
  refine kThen ?_
  refine kSeq ?_
  refine kRegion rfl ?_
  refine lE rfl ?_
  refine eBuildSlice .n (fun w => BS24_0_ w) fun n44 => ?_
  refine lV (yFieldAddr rfl F26_1) rfl rfl ?_
  refine lV (yLoad1 rfl O24 (cOwn 2 rfl rfl)) rfl rfl ?_
  refine lE rfl ?_
  skip
  refine eAppend (gs := .b n44 0 []) (es := []) [(n16, _), (n7, _)] (p.st.map rowS) AP24 rfl rfl (.c 1 rfl (.c 1 rfl (.c 0 rfl .n))) (OS.lit (es := []) (by simp) rfl (by simp)) (by simp) (rowsS_len p.st) (flatten_range (f := rowS) p.st star0 ▸ SlN.sl hm.r) (rowsS_one p.st) (by simp; omega) (by simp; omega) fun g0 hg0 => ?_
  rw [List.nil_append] at hg0
  rw [show (([] : List (List Value)) ++ p.st.map rowS).length = (movP p b t).st.length from by simp [movP]]
  refine lV (yFieldAddr rfl F26_1) rfl rfl ?_
  refine lE rfl ?_
  refine eStoreL 0 rfl rfl rfl rfl K24 rfl (rfl) ?_
  refine lNil ?_
  refine kThen ?_
  refine kSeq ?_
  refine kSeq ?_
  refine kRegion rfl ?_
  refine lV (yFieldAddr rfl F26_1) rfl rfl ?_
  refine lV (yLoad1 rfl O24 (cOwn 0 rfl rfl)) rfl rfl ?_
  refine lV (yLen rfl S24) rfl rfl ?_
  refine lV (yMove rfl) rfl rfl ?_
  refine lNil ?_
  refine kThen ?_
  refine kBlock ?_
  refine kLoopX (ι := Nat × Own) (fun x => x.1 ≤ p.st.length ∧ OS 9 x.2 ((movT p.st b t x.1).map rowS) ∧ osA x.2 = osA g0 ∧ osC x.2 = osC g0) (fun x => [(52, i64 (x.1 : Nat))]) [(0, _), (1, _), (2, _), (3, _), (4, _), (5, _), (6, _), (7, _), (14, _), (33, _), (34, _), (35, _), (36, _), (37, _), (38, _), (39, _), (40, _), (41, _), (15, _), (43, _), (16, _), (44, _), (45, _), (46, _), (47, _), (48, _), (49, _), (50, _), (51, _)] (fun x => []) (fun x => osL 58 x.2) [(n16, _), (n7, _)] (fun x => p.st.length - x.1) (0, g0) (⟨Nat.zero_le _, hg0, rfl, rfl⟩) rfl (.c rfl .n) (.c rfl (.c rfl (.c rfl (.c rfl (.c rfl (.c rfl (.c rfl (.c rfl (.c rfl (.c rfl (.c rfl (.c rfl (.c rfl (.c rfl (.c rfl (.c rfl (.c rfl (.c rfl (.c rfl (.c rfl (.c rfl (.c rfl (.c rfl (.c rfl (.c rfl (.c rfl (.c rfl (.c rfl (.c rfl .n))))))))))))))))))))))))))))) .r ?_
  rintro ⟨j, g⟩ ⟨hj, hg, hA, hC⟩
  dsimp only at hj hg hA hC ⊢
  refine kSeq ?_
  refine kRegion rfl ?_
  refine lV (yLss rfl rfl) rfl rfl ?_
  refine lNil ?_
  refine kThen ?_
  refine kSeq ?_
  refine split (t := 53) rfl (fun h53 => ?_) (fun h53 => ?_)
  · refine kIfT rfl ?_
    refine kSkip ?_
    refine kThen ?_
    refine kSeq ?_
    refine kBlock ?_
    refine kSeq ?_
    refine kRegion rfl ?_
    refine lV (yMove rfl) rfl rfl ?_
    refine lV (yAssign rfl) rfl rfl ?_
    refine lNil ?_
    refine kThen ?_
    refine kSeq ?_
    refine kRegion rfl ?_
    refine lV (yFieldAddr rfl F26_1) rfl rfl ?_
    refine lV (yLoad1 rfl O24 (cOwn 0 rfl rfl)) rfl rfl ?_
    refine lV (yMove rfl) rfl rfl ?_
    refine lV (yIndexS  rfl rfl S24 ((fun w hw => (show SlE w (osA g0) (movP p b t).st.length 9 (starC (movT p.st b t j)) from by rw [← hA]; exact (OS.rowsE (f := rowS) star0 hg hw (.d 0 (.d 0 .r))).congr ((movT_len _ _ _ _).trans hml.symm).symm fun i _ => rfl))) ((by omega))) rfl rfl ?_
    refine lV (yAssign rfl) rfl rfl ?_
    refine lNil ?_
    refine kThen ?_
    refine kSeq ?_
    refine kRegion rfl ?_
    refine lV (yMove rfl) rfl rfl ?_
    refine lV (yNilCheckP rfl) rfl rfl ?_
    refine lV (yFieldAddr rfl F58_2) rfl rfl ?_
    refine lV (yLoad1 rfl O4 (cSl ((fun w hw => (show SlE w (osA g0) (movP p b t).st.length 9 (starC (movT p.st b t j)) from by rw [← hA]; exact (OS.rowsE (f := rowS) star0 hg hw (.d 0 (.d 0 .r))).congr ((movT_len _ _ _ _).trans hml.symm).symm fun i _ => rfl))) ((by omega)) rfl)) rfl rfl ?_
    refine same (t := 62) (u := .bool (p.st.getD j star0).k) rfl (by rw [movT_at _ _ _ (by omega)]) ?_
    refine lNil ?_
    refine kThen ?_
    refine splitB (t := 62) rfl (fun h62 => ?_) (fun h62 => ?_)
    · refine kIfT rfl ?_
      have hs := hp.s _ (getD_mem (show j < p.st.length by omega) star0)
      have hse := hs.2.2 h62
      unfold spanOk at hse
      have hbe : B60 (p.st.getD j star0).e := by unfold B60; omega
      have hbn : B60 (p.st.getD j star0).n := by unfold B60; omega
      have hl0 : j < ((movT p.st b t j).map rowS).length := by rw [List.length_map, movT_len]; omega
      have hg1 := hg.rowSet (k := j) (o := 5) (vs := rowE ((p.st.getD j star0).e.1 + b, (p.st.getD j star0).e.2 + b)) hl0 (Nat.le_of_ble_eq_true rfl)
      have hg2 := hg1.rowSet (k := j) (o := 7) (vs := rowE ((p.st.getD j star0).n.1 + t, (p.st.getD j star0).n.2 + t)) (by rw [List.length_set]; exact hl0) (Nat.le_of_ble_eq_true rfl)
      refine kDrawE [(6, none), (8, none), (13, none), (15, none)] [] [0, 1, 2, 3, 4, 5, 6, 7, 8, 9, 10, 11, 12, 13, 14, 15, 16, 17, 19, 20] 2 hMix (by kernel_rfl) ?_
      refine .run rfl (yMove rfl) rfl rfl ?_
      refine .run rfl (yMove rfl) rfl rfl ?_
      refine .run rfl (yMove rfl) rfl rfl ?_
      refine .run rfl (yMove rfl) rfl rfl ?_
      refine .run rfl (yNilCheckP rfl) rfl rfl ?_
      refine .run rfl (yFieldAddr rfl F58_3) rfl rfl ?_
      refine .run rfl (yvSame (u := .agg (rowE (p.st.getD j star0).e).toArray) (yLoadA (vs := [_, _]) rfl A23 (cSl ((fun w hw => (show SlE w (osA g0) (movP p b t).st.length 9 (starC (movT p.st b t j)) from by rw [← hA]; exact (OS.rowsE (f := rowS) star0 hg hw (.d 0 (.d 0 .r))).congr ((movT_len _ _ _ _).trans hml.symm).symm fun i _ => rfl))) ((by omega)) rfl)) (by rw [movT_at _ _ _ (by omega)])) rfl rfl ?_
      refine .run rfl (yMove rfl) rfl rfl ?_
      refine .run rfl (yCall rfl (.c rfl (.c rfl .n)) C45 (fun w hw => movOn_any _ b w hbe hb)) rfl rfl ?_
      refine .run rfl (yMove rfl) rfl rfl ?_
      refine .run rfl (yMove rfl) rfl rfl ?_
      refine .run rfl (yNilCheckP rfl) rfl rfl ?_
      refine .run rfl (yFieldAddr rfl F58_4) rfl rfl ?_
      refine .run rfl (yvSame (u := .agg (rowE (p.st.getD j star0).n).toArray) (yLoadA (vs := [_, _]) rfl A23 (cSl ((fun w hw => (show SlE w (osA g0) (movP p b t).st.length 9 (starC (movT p.st b t j)) from by rw [← hA]; exact (OS.rowsE (f := rowS) star0 hg hw (.d 0 (.d 0 .r))).congr ((movT_len _ _ _ _).trans hml.symm).symm fun i _ => rfl))) ((by omega)) rfl)) (by rw [movT_at _ _ _ (by omega)])) rfl rfl ?_
      refine .run rfl (yMove rfl) rfl rfl ?_
      refine .run rfl (yCall rfl (.c rfl (.c rfl .n)) C45 (fun w hw => movOn_any _ t w hbn ht)) rfl rfl ?_
      refine .run rfl (yNilCheckP rfl) rfl rfl ?_
      refine .run rfl (yFieldAddr rfl F58_3) rfl rfl ?_
      refine .run rfl (yNilCheckP rfl) rfl rfl ?_
      refine .run rfl (yFieldAddr rfl F58_4) rfl rfl ?_
      refine .done ?_
      refine effStep 18 [] (by kernel_rfl) closedSt (hLeft [6, 8, 13, 15] (by kernel_rfl) (.c (fun _ _ hs => hs.ef) (.c (fun _ _ hs => hs.ef) (.c (fun _ _ hs => hs.ef) (.c (fun _ _ hs => hs.ef) .n))))) ?_
      refine .c ?_ .n
      refine effOne rfl (gNone rfl (eStoreRow (X := [(n16, _), (n7, _)]) (gs := g) (sz := 9) (k := j) (o := 5) (vs := rowE ((p.st.getD j star0).e.1 + b, (p.st.getD j star0).e.2 + b)) (by rw [hA]; rfl) rfl rfl rfl K23 rfl hg hl0 (Nat.le_of_ble_eq_true rfl) trSelf)) ?_
      refine effStep 21 [] (by kernel_rfl) closedSt (hLeft [] (by kernel_rfl) .n) ?_
      refine .c ?_ .n
      refine effOne rfl (gNone rfl (eStoreRow (X := [(n16, _), (n7, _)]) (gs := rowSet 9 g j 5 (rowE ((p.st.getD j star0).e.1 + b, (p.st.getD j star0).e.2 + b))) (sz := 9) (k := j) (o := 7) (vs := rowE ((p.st.getD j star0).n.1 + t, (p.st.getD j star0).n.2 + t)) (by rw [rowSet_A, hA]; rfl) rfl rfl rfl K23 rfl hg1 (by rw [List.length_set]; exact hl0) (Nat.le_of_ble_eq_true rfl) trSelf)) ?_
      refine effDone closedSt (hLeft [] (by kernel_rfl) .n) (by kernel_rfl) ?_
      refine kInN ?_
      refine kThen ?_
      refine kRegion rfl ?_
      refine lV (yAdd rfl rfl (by omega)) rfl rfl ?_
      refine lV (yMove rfl) rfl rfl ?_
      refine lNil ?_
      exact kRoundX (j + 1, rowSet 9 (rowSet 9 g j 5 (rowE ((p.st.getD j star0).e.1 + b, (p.st.getD j star0).e.2 + b))) j 7 (rowE ((p.st.getD j star0).n.1 + t, (p.st.getD j star0).n.2 + t))) (⟨by dsimp only; omega, by dsimp only; rw [movT_yes _ _ _ (by omega) h62]; exact hg2, by rw [rowSet_A, rowSet_A]; exact hA, by rw [rowSet_C, rowSet_C]; exact hC⟩) (by dsimp only; omega) rfl (.c rfl .n) (.c rfl (.c rfl (.c rfl (.c rfl (.c rfl (.c rfl (.c rfl (.c rfl (.c rfl (.c rfl (.c rfl (.c rfl (.c rfl (.c rfl (.c rfl (.c rfl (.c rfl (.c rfl (.c rfl (.c rfl (.c rfl (.c rfl (.c rfl (.c rfl (.c rfl (.c rfl (.c rfl (.c rfl (.c rfl .n))))))))))))))))))))))))))))) (.c 0 rfl (.c 0 rfl .r))
    · refine kIfF rfl ?_
      refine kSkip ?_
      refine kInN ?_
      refine kThen ?_
      refine kRegion rfl ?_
      refine lV (yAdd rfl rfl (by omega)) rfl rfl ?_
      refine lV (yMove rfl) rfl rfl ?_
      refine lNil ?_
      exact kRoundX (j + 1, g) (⟨by dsimp only; omega, by dsimp only; rw [movT_not _ _ _ (by omega) h62]; exact hg, hA, hC⟩) (by dsimp only; omega) rfl (.c rfl .n) (.c rfl (.c rfl (.c rfl (.c rfl (.c rfl (.c rfl (.c rfl (.c rfl (.c rfl (.c rfl (.c rfl (.c rfl (.c rfl (.c rfl (.c rfl (.c rfl (.c rfl (.c rfl (.c rfl (.c rfl (.c rfl (.c rfl (.c rfl (.c rfl (.c rfl (.c rfl (.c rfl (.c rfl (.c rfl .n))))))))))))))))))))))))))))) (.c 0 rfl (.c 0 rfl .r))
  · refine kIfF rfl ?_
    refine kExit ?_
    refine kThenX ?_
    refine kThenX ?_
    refine kInX ?_
    refine kThen ?_
    refine kSeq ?_
    refine kSeq ?_
    obtain rfl : j = p.st.length := by omega
    have hg' : OS 9 g ((movP p b t).st.map rowS) := by rw [movT_all] at hg; exact hg
    have hIn : ∀ w, SlE w (osA g) (movP p b t).st.length 9 (starC (movP p b t).st) → InP w (osA g0, osC g0) (movP p b t) := fun w h => by rw [hA] at h; exact h
    refine kRegion rfl ?_
    refine lV (yLoadA (vs := [_, _, _]) rfl A26 (cOwn 0 rfl rfl)) rfl rfl ?_
    refine lV (yCall rfl (.c rfl .n) C23 (fun w hw => rplate_any (osA g0, osC g0) (movP p b t) w (hIn w (OS.rowsE (f := rowS) star0 hg' hw (.d 0 (.d 0 .r)))) (by rw [hml]; omega))) rfl rfl ?_
    refine lV (yNot rfl) rfl rfl ?_
    refine splitB (t := 86) rfl (fun h86 => ?_) (fun h86 => ?_)
    · refine lNil ?_
      refine kThen ?_
      refine kIfT rfl ?_
      refine kSeq ?_
      refine kRegion rfl ?_
      refine lV (yCall rfl .n C14 (fun w hw => alive_any w)) rfl rfl ?_
      refine lV (yAssign rfl) rfl rfl ?_
      refine lNil ?_
      refine kThen ?_
      refine kRet ?_
      refine kThenR ?_
      refine fRet rfl (.t rfl .n) (endRet ?_)
      rfl
    · refine lNil ?_
      refine kThen ?_
      refine kIfF rfl ?_
      refine kSkip ?_
      refine kThen ?_
      refine kSeq ?_
      have hq : PltOk (movP p b t) := by simpa using h86
      have hz := zero_bd (p := p)
      have hst := star_bd hp i
      have hz' := mov_zero' hp hq
      have hs' := mov_star' hp hq i
      refine kRegion rfl ?_
      refine lV (yLoadA (vs := [_, _, _]) rfl A26 (cOwn 1 rfl rfl)) rfl rfl ?_
      refine lV (yCall rfl (.c rfl .n) C15 (fun w hw => scale_any y p w (hm.eff0 hw))) rfl rfl ?_
      refine lV (yMove rfl) rfl rfl ?_
      refine lV (yExtract rfl rfl) rfl rfl ?_
      refine lV (yExtract rfl rfl) rfl rfl ?_
      refine lE rfl ?_
      refine eAlloc Z23 fun n19 => ?_
      refine lE rfl ?_
      refine eStoreL 0 rfl rfl rfl rfl K23 rfl (rfl) ?_
      refine lV (yAssign rfl) rfl rfl ?_
      refine lNil ?_
      refine kThen ?_
      refine kSeq ?_
      refine kRegion rfl ?_
      refine lV (yLoadA (vs := [_, _, _]) rfl A26 (cOwn 1 rfl rfl)) rfl rfl ?_
      refine lV (yCall rfl (.c rfl .n) C15 (fun w hw => scale_any (osA g0, osC g0) (movP p b t) w (hIn w (OS.rowsE (f := rowS) star0 hg' hw (.d 0 (.d 0 (.d 0 .r))))))) rfl rfl ?_
      refine same (t := 95) (u := outC (scaleE p)) rfl (by rw [mov_scale hp hq]) ?_
      refine lV (yMove rfl) rfl rfl ?_
      refine lV (yExtract rfl rfl) rfl rfl ?_
      refine lV (yExtract rfl rfl) rfl rfl ?_
      refine lE rfl ?_
      refine eAlloc Z23 fun n21 => ?_
      refine lE rfl ?_
      refine eStoreL 0 rfl rfl rfl rfl K23 rfl (rfl) ?_
      refine lV (yAssign rfl) rfl rfl ?_
      refine lNil ?_
      refine kThen ?_
      refine kSeq ?_
      refine kRegion rfl ?_
      refine lV (yLoadA (vs := [_, _, _]) rfl A26 (cOwn 3 rfl rfl)) rfl rfl ?_
      refine lV (yCall rfl (.c rfl .n) C17 (fun w hw => zero_any y p w (hm.eff0 hw))) rfl rfl ?_
      refine lV (yMove rfl) rfl rfl ?_
      refine lV (yExtract rfl rfl) rfl rfl ?_
      refine lV (yExtract rfl rfl) rfl rfl ?_
      refine lV (yExtract rfl rfl) rfl rfl ?_
      refine lE rfl ?_
      refine eAlloc Z23 fun n23 => ?_
      refine lE rfl ?_
      refine eAlloc Z23 fun n24 => ?_
      refine lE rfl ?_
      refine eStoreL 1 rfl rfl rfl rfl K23 rfl (rfl) ?_
      refine lE rfl ?_
      refine eStoreL 0 rfl rfl rfl rfl K23 rfl (rfl) ?_
      refine lV (yAssign rfl) rfl rfl ?_
      refine lNil ?_
      refine kThen ?_
      refine kSeq ?_
      refine kRegion rfl ?_
      refine lV (yLoadA (vs := [_, _, _]) rfl A26 (cOwn 4 rfl rfl)) rfl rfl ?_
      refine lV (yCall rfl (.c rfl .n) C17 (fun w hw => zero_any (osA g0, osC g0) (movP p b t) w (hIn w (OS.rowsE (f := rowS) star0 hg' hw (.d 0 (.d 0 (.d 0 (.d 0 (.d 0 (.d 0 .r)))))))))) rfl rfl ?_
      refine lV (yMove rfl) rfl rfl ?_
      refine lV (yExtract rfl rfl) rfl rfl ?_
      refine lV (yExtract rfl rfl) rfl rfl ?_
      refine lV (yExtract rfl rfl) rfl rfl ?_
      refine lE rfl ?_
      refine eAlloc Z23 fun n26 => ?_
      refine lE rfl ?_
      refine eAlloc Z23 fun n27 => ?_
      refine lE rfl ?_
      refine eStoreL 1 rfl rfl rfl rfl K23 rfl (rfl) ?_
      refine lE rfl ?_
      refine eStoreL 0 rfl rfl rfl rfl K23 rfl (rfl) ?_
      refine lV (yAssign rfl) rfl rfl ?_
      refine lNil ?_
      refine kThen ?_
      refine kSeq ?_
      refine kSeq ?_
      refine kCutX (ι := Unit) (fun _ => True) (fun _ => [(142, .bool false)]) [(1, _), (2, _), (3, _), (4, _), (5, _), (6, _), (7, _), (14, _), (15, _), (16, _), (23, _), (24, _), (25, _), (26, _), (27, _), (28, _)] (fun _ => []) (fun _ => osL 58 g) [(n27, _), (n26, _), (n24, _), (n23, _), (n16, _), (n7, _)] (.c rfl (.c rfl (.c rfl (.c rfl (.c rfl (.c rfl (.c rfl (.c rfl (.c rfl (.c rfl (.c rfl (.c rfl (.c rfl (.c rfl (.c rfl (.c rfl .n)))))))))))))))) (.c 0 rfl (.c 0 rfl (.c 0 rfl (.c 0 rfl (.c 2 rfl (.c 2 rfl .n)))))) ?_ (fun u _ => ?_)
      · by_cases h125 : (zeroE p).2.2 = 0
        · refine kDrawE [(0, none), (1, none), (17, none), (19, none), (21, none), (24, none), (26, none), (28, none)] [] [0, 1, 2, 3, 4, 5, 6, 7, 8, 9, 10, 11, 12, 13, 14, 15, 16, 17, 18, 19, 20, 21, 22, 23, 24, 25, 26, 27, 28, 29, 30, 31, 32] 0 hMix (by kernel_rfl) ?_
          refine .run rfl (yLoadA (vs := [_, _]) rfl A23 (cOwn 5 rfl rfl)) rfl rfl ?_
          refine .run rfl (yLoadA (vs := [_, _]) rfl A23 (cOwn 4 rfl rfl)) rfl rfl ?_
          refine .run rfl (yvIs (c := false) (yNeAgg rfl rfl G23 (fun w => Q23 w)) (by simp)) rfl rfl ?_
          refine .run rfl (yMove rfl) rfl rfl ?_
          refine .runG rfl (yMove rfl) rfl rfl rfl rfl ?_
          refine .runG rfl (yMove rfl) rfl rfl rfl rfl ?_
          refine .runG rfl (yvIs (c := false) (yNeq rfl rfl) (by simp)) rfl rfl rfl rfl ?_
          refine .run rfl (yPickF rfl rfl) rfl rfl ?_
          refine .run rfl (yMove rfl) rfl rfl ?_
          refine .runG rfl (yMove rfl) rfl rfl rfl rfl ?_
          refine .runG rfl (yMove rfl) rfl rfl rfl rfl ?_
          refine .runG rfl (yvIs (c := false) (yNeq rfl rfl) (by rw [hz'.1]; simp)) rfl rfl rfl rfl ?_
          refine .run rfl (yPickF rfl rfl) rfl rfl ?_
          refine .run rfl (yMove rfl) rfl rfl ?_
          refine .runG rfl (yMove rfl) rfl rfl rfl rfl ?_
          refine .runG rfl (yvTrue (yEql rfl rfl) (h125)) rfl rfl rfl rfl ?_
          refine .runG rfl (yMove rfl) rfl rfl rfl rfl ?_
          refine .runG rfl (yLoadA (vs := [_, _]) rfl A23 (cOwn 1 rfl rfl)) rfl rfl rfl rfl ?_
          refine .runG rfl (yMove rfl) rfl rfl rfl rfl ?_
          refine .runG rfl (yLoadA (vs := [_, _]) rfl A23 (cOwn 3 rfl rfl)) rfl rfl rfl rfl ?_
          refine .runG rfl (yMove rfl) rfl rfl rfl rfl ?_
          refine .runG rfl (yCall rfl (.c rfl (.c rfl .n)) C45 (fun w hw => movOn_any _ b w hz.1 hb)) rfl rfl rfl rfl ?_
          refine .runG rfl (yvIs (c := false) (yNeAgg rfl rfl G23 (fun w => Q23 w)) (by rw [(hz'.2 h125).1]; simp)) rfl rfl rfl rfl ?_
          refine .runG rfl (yMove rfl) rfl rfl rfl rfl ?_
          refine .runG rfl (yLoadA (vs := [_, _]) rfl A23 (cOwn 0 rfl rfl)) rfl rfl rfl rfl ?_
          refine .runG rfl (yMove rfl) rfl rfl rfl rfl ?_
          refine .runG rfl (yLoadA (vs := [_, _]) rfl A23 (cOwn 2 rfl rfl)) rfl rfl rfl rfl ?_
          refine .runG rfl (yMove rfl) rfl rfl rfl rfl ?_
          refine .runG rfl (yCall rfl (.c rfl (.c rfl .n)) C45 (fun w hw => movOn_any _ t w hz.2 ht)) rfl rfl rfl rfl ?_
          refine .runG rfl (yvIs (c := false) (yNeAgg rfl rfl G23 (fun w => Q23 w)) (by rw [(hz'.2 h125).2]; simp)) rfl rfl rfl rfl ?_
          refine .runG rfl (yPickF rfl rfl) rfl rfl rfl rfl ?_
          refine .runG rfl (yPickT rfl rfl) rfl rfl rfl rfl ?_
          refine .run rfl (yPickF rfl rfl) rfl rfl ?_
          refine .done ?_
          refine effDone closedSt (hLeft [0, 1, 17, 19, 21, 24, 26, 28] (by kernel_rfl) (.c (fun _ _ hs => hs.ef) (.c (fun _ _ hs => hs.ef) (.c (fun _ _ hs => hs.ef) (.c (fun _ _ hs => hs.ef) (.c (fun _ _ hs => hs.ef) (.c (fun _ _ hs => hs.ef) (.c (fun _ _ hs => hs.ef) (.c (fun _ _ hs => hs.ef) .n))))))))) (by kernel_rfl) ?_
          exact kMeetX (()) (by simp) rfl (.c rfl .n) (.c rfl (.c rfl (.c rfl (.c rfl (.c rfl (.c rfl (.c rfl (.c rfl (.c rfl (.c rfl (.c rfl (.c rfl (.c rfl (.c rfl (.c rfl (.c rfl .n)))))))))))))))) (.c 0 rfl (.c 0 rfl (.c 0 rfl (.c 0 rfl (.c 2 rfl (.c 2 rfl (.d 0 (.d 0 .r))))))))
        · refine kDrawE [(0, none), (1, none)] [] [0, 1, 2, 3, 4, 5, 6, 7, 8, 9, 10, 11, 12, 13, 14, 15, 16, 17, 18, 19, 20, 21, 22, 23, 24, 25, 26, 27, 28, 29, 30, 31, 32] 0 hMix (by kernel_rfl) ?_
          refine .run rfl (yLoadA (vs := [_, _]) rfl A23 (cOwn 5 rfl rfl)) rfl rfl ?_
          refine .run rfl (yLoadA (vs := [_, _]) rfl A23 (cOwn 4 rfl rfl)) rfl rfl ?_
          refine .run rfl (yvIs (c := false) (yNeAgg rfl rfl G23 (fun w => Q23 w)) (by simp)) rfl rfl ?_
          refine .run rfl (yMove rfl) rfl rfl ?_
          refine .runG rfl (yMove rfl) rfl rfl rfl rfl ?_
          refine .runG rfl (yMove rfl) rfl rfl rfl rfl ?_
          refine .runG rfl (yvIs (c := false) (yNeq rfl rfl) (by simp)) rfl rfl rfl rfl ?_
          refine .run rfl (yPickF rfl rfl) rfl rfl ?_
          refine .run rfl (yMove rfl) rfl rfl ?_
          refine .runG rfl (yMove rfl) rfl rfl rfl rfl ?_
          refine .runG rfl (yMove rfl) rfl rfl rfl rfl ?_
          refine .runG rfl (yvIs (c := false) (yNeq rfl rfl) (by rw [hz'.1]; simp)) rfl rfl rfl rfl ?_
          refine .run rfl (yPickF rfl rfl) rfl rfl ?_
          refine .run rfl (yMove rfl) rfl rfl ?_
          refine .runG rfl (yMove rfl) rfl rfl rfl rfl ?_
          refine .runG rfl (yvFalse (yEql rfl rfl) (h125)) rfl rfl rfl rfl ?_
          refine .runG rfl (yMove rfl) rfl rfl rfl rfl ?_
          refine .skip rfl rfl rfl rfl rfl rfl ?_
          refine .skip rfl rfl rfl rfl rfl rfl ?_
          refine .skip rfl rfl rfl rfl rfl rfl ?_
          refine .skip rfl rfl rfl rfl rfl rfl ?_
          refine .skip rfl rfl rfl rfl rfl rfl ?_
          refine .skip rfl rfl rfl rfl rfl rfl ?_
          refine .skip rfl rfl rfl rfl rfl rfl ?_
          refine .skipU rfl rfl rfl rfl rfl ?_
          refine .skipU rfl rfl rfl rfl rfl ?_
          refine .skipU rfl rfl rfl rfl rfl ?_
          refine .skipU rfl rfl rfl rfl rfl ?_
          refine .skipU rfl rfl rfl rfl rfl ?_
          refine .skipU rfl rfl rfl rfl rfl ?_
          refine .skip rfl rfl rfl rfl rfl rfl ?_
          refine .runG rfl (yPickF rfl rfl) rfl rfl rfl rfl ?_
          refine .run rfl (yPickF rfl rfl) rfl rfl ?_
          refine .done ?_
          refine effDone closedSt (hLeft [0, 1] (by kernel_rfl) (.c (fun _ _ hs => hs.ef) (.c (fun _ _ hs => hs.ef) .n))) (by kernel_rfl) ?_
          exact kMeetX (()) (by simp) rfl (.c rfl .n) (.c rfl (.c rfl (.c rfl (.c rfl (.c rfl (.c rfl (.c rfl (.c rfl (.c rfl (.c rfl (.c rfl (.c rfl (.c rfl (.c rfl (.c rfl (.c rfl .n)))))))))))))))) (.c 0 rfl (.c 0 rfl (.c 0 rfl (.c 0 rfl (.c 2 rfl (.c 2 rfl (.d 0 (.d 0 .r))))))))
      · refine kIfF rfl ?_
        refine kSkip ?_
        refine kThen ?_
        refine kSeq ?_
        refine kRegion rfl ?_
        refine lV (yLoadA (vs := [_, _, _]) rfl A26 (cOwn 5 rfl rfl)) rfl rfl ?_
        refine lV (yMove rfl) rfl rfl ?_
        refine lV (yCall rfl (.c rfl (.c rfl .n)) C19 (fun w hw => star_any y p i w (hm.eff0 hw) hL6)) rfl rfl ?_
        refine lV (yMove rfl) rfl rfl ?_
        refine lV (yExtract rfl rfl) rfl rfl ?_
        refine lV (yExtract rfl rfl) rfl rfl ?_
        refine lV (yExtract rfl rfl) rfl rfl ?_
        refine lE rfl ?_
        refine eStoreL 3 rfl rfl rfl rfl K23 rfl (rfl) ?_
        refine lE rfl ?_
        refine eStoreL 2 rfl rfl rfl rfl K23 rfl (rfl) ?_
        refine lV (yAssign rfl) rfl rfl ?_
        refine lNil ?_
        refine kThen ?_
        refine kSeq ?_
        refine kRegion rfl ?_
        refine lV (yLoadA (vs := [_, _, _]) rfl A26 (cOwn 4 rfl rfl)) rfl rfl ?_
        refine lV (yMove rfl) rfl rfl ?_
        refine lV (yCall rfl (.c rfl (.c rfl .n)) C19 (fun w hw => star_any (osA g0, osC g0) (movP p b t) i w (hIn w (OS.rowsE (f := rowS) star0 hg' hw (.d 0 (.d 0 (.d 0 (.d 0 (.d 0 (.d 0 .r)))))))) hL6q)) rfl rfl ?_
        refine lV (yMove rfl) rfl rfl ?_
        refine lV (yExtract rfl rfl) rfl rfl ?_
        refine lV (yExtract rfl rfl) rfl rfl ?_
        refine lV (yExtract rfl rfl) rfl rfl ?_
        refine lE rfl ?_
        refine eStoreL 1 rfl rfl rfl rfl K23 rfl (rfl) ?_
        refine lE rfl ?_
        refine eStoreL 0 rfl rfl rfl rfl K23 rfl (rfl) ?_
        refine lV (yAssign rfl) rfl rfl ?_
        refine lNil ?_
        refine kThen ?_
        refine kSeq ?_
        refine kSeq ?_
        refine kCutX (ι := Unit) (fun _ => True) (fun _ => [(179, .bool false)]) [(1, _), (2, _), (3, _), (4, _), (5, _), (6, _), (7, _), (14, _), (15, _), (16, _), (23, _), (24, _), (25, _), (26, _), (27, _), (28, _)] (fun _ => []) (fun _ => osL 58 g) [(n27, _), (n26, _), (n24, _), (n23, _), (n16, _), (n7, _)] (.c rfl (.c rfl (.c rfl (.c rfl (.c rfl (.c rfl (.c rfl (.c rfl (.c rfl (.c rfl (.c rfl (.c rfl (.c rfl (.c rfl (.c rfl (.c rfl .n)))))))))))))))) (.c 0 rfl (.c 0 rfl (.c 0 rfl (.c 0 rfl (.c 0 rfl (.c 0 rfl .n)))))) ?_ (fun u2 _ => ?_)
        · by_cases h162 : (starE p i).2.2 = 0
          · refine kDrawE [(7, none), (9, none), (11, none), (14, none), (16, none), (18, none)] [] [0, 1, 2, 3, 4, 5, 6, 7, 8, 9, 10, 11, 12, 13, 14, 15, 16, 17, 18, 19, 20, 21, 22] 0 hMix (by kernel_rfl) ?_
            refine .run rfl (yMove rfl) rfl rfl ?_
            refine .run rfl (yMove rfl) rfl rfl ?_
            refine .run rfl (yvIs (c := false) (yNeq rfl rfl) (by rw [hs'.1]; simp)) rfl rfl ?_
            refine .run rfl (yMove rfl) rfl rfl ?_
            refine .runG rfl (yMove rfl) rfl rfl rfl rfl ?_
            refine .runG rfl (yvTrue (yEql rfl rfl) (h162)) rfl rfl rfl rfl ?_
            refine .runG rfl (yMove rfl) rfl rfl rfl rfl ?_
            refine .runG rfl (yLoadA (vs := [_, _]) rfl A23 (cOwn 1 rfl rfl)) rfl rfl rfl rfl ?_
            refine .runG rfl (yMove rfl) rfl rfl rfl rfl ?_
            refine .runG rfl (yLoadA (vs := [_, _]) rfl A23 (cOwn 3 rfl rfl)) rfl rfl rfl rfl ?_
            refine .runG rfl (yMove rfl) rfl rfl rfl rfl ?_
            refine .runG rfl (yCall rfl (.c rfl (.c rfl .n)) C45 (fun w hw => movOn_any _ b w hst.1 hb)) rfl rfl rfl rfl ?_
            refine .runG rfl (yvIs (c := false) (yNeAgg rfl rfl G23 (fun w => Q23 w)) (by rw [(hs'.2 h162).1]; simp)) rfl rfl rfl rfl ?_
            refine .runG rfl (yMove rfl) rfl rfl rfl rfl ?_
            refine .runG rfl (yLoadA (vs := [_, _]) rfl A23 (cOwn 0 rfl rfl)) rfl rfl rfl rfl ?_
            refine .runG rfl (yMove rfl) rfl rfl rfl rfl ?_
            refine .runG rfl (yLoadA (vs := [_, _]) rfl A23 (cOwn 2 rfl rfl)) rfl rfl rfl rfl ?_
            refine .runG rfl (yMove rfl) rfl rfl rfl rfl ?_
            refine .runG rfl (yCall rfl (.c rfl (.c rfl .n)) C45 (fun w hw => movOn_any _ t w hst.2 ht)) rfl rfl rfl rfl ?_
            refine .runG rfl (yvIs (c := false) (yNeAgg rfl rfl G23 (fun w => Q23 w)) (by rw [(hs'.2 h162).2]; simp)) rfl rfl rfl rfl ?_
            refine .runG rfl (yPickF rfl rfl) rfl rfl rfl rfl ?_
            refine .runG rfl (yPickT rfl rfl) rfl rfl rfl rfl ?_
            refine .run rfl (yPickF rfl rfl) rfl rfl ?_
            refine .done ?_
            refine effDone closedSt (hLeft [7, 9, 11, 14, 16, 18] (by kernel_rfl) (.c (fun _ _ hs => hs.ef) (.c (fun _ _ hs => hs.ef) (.c (fun _ _ hs => hs.ef) (.c (fun _ _ hs => hs.ef) (.c (fun _ _ hs => hs.ef) (.c (fun _ _ hs => hs.ef) .n))))))) (by kernel_rfl) ?_
            exact kMeetX (()) (by simp) rfl (.c rfl .n) (.c rfl (.c rfl (.c rfl (.c rfl (.c rfl (.c rfl (.c rfl (.c rfl (.c rfl (.c rfl (.c rfl (.c rfl (.c rfl (.c rfl (.c rfl (.c rfl .n)))))))))))))))) (.c 0 rfl (.c 0 rfl (.c 0 rfl (.c 0 rfl (.c 0 rfl (.c 0 rfl .r))))))
          · refine kDrawE [] [] [0, 1, 2, 3, 4, 5, 6, 7, 8, 9, 10, 11, 12, 13, 14, 15, 16, 17, 18, 19, 20, 21, 22] 0 hMix (by kernel_rfl) ?_
            refine .run rfl (yMove rfl) rfl rfl ?_
            refine .run rfl (yMove rfl) rfl rfl ?_
            refine .run rfl (yvIs (c := false) (yNeq rfl rfl) (by rw [hs'.1]; simp)) rfl rfl ?_
            refine .run rfl (yMove rfl) rfl rfl ?_
            refine .runG rfl (yMove rfl) rfl rfl rfl rfl ?_
            refine .runG rfl (yvFalse (yEql rfl rfl) (h162)) rfl rfl rfl rfl ?_
            refine .runG rfl (yMove rfl) rfl rfl rfl rfl ?_
            refine .skip rfl rfl rfl rfl rfl rfl ?_
            refine .skip rfl rfl rfl rfl rfl rfl ?_
            refine .skip rfl rfl rfl rfl rfl rfl ?_
            refine .skip rfl rfl rfl rfl rfl rfl ?_
            refine .skip rfl rfl rfl rfl rfl rfl ?_
            refine .skip rfl rfl rfl rfl rfl rfl ?_
            refine .skip rfl rfl rfl rfl rfl rfl ?_
            refine .skipU rfl rfl rfl rfl rfl ?_
            refine .skipU rfl rfl rfl rfl rfl ?_
            refine .skipU rfl rfl rfl rfl rfl ?_
            refine .skipU rfl rfl rfl rfl rfl ?_
            refine .skipU rfl rfl rfl rfl rfl ?_
            refine .skipU rfl rfl rfl rfl rfl ?_
            refine .skip rfl rfl rfl rfl rfl rfl ?_
            refine .runG rfl (yPickF rfl rfl) rfl rfl rfl rfl ?_
            refine .run rfl (yPickF rfl rfl) rfl rfl ?_
            refine .done ?_
            refine effDone closedSt (hLeft [] (by kernel_rfl) .n) (by kernel_rfl) ?_
            exact kMeetX (()) (by simp) rfl (.c rfl .n) (.c rfl (.c rfl (.c rfl (.c rfl (.c rfl (.c rfl (.c rfl (.c rfl (.c rfl (.c rfl (.c rfl (.c rfl (.c rfl (.c rfl (.c rfl (.c rfl .n)))))))))))))))) (.c 0 rfl (.c 0 rfl (.c 0 rfl (.c 0 rfl (.c 0 rfl (.c 0 rfl .r))))))
        · refine kIfF rfl ?_
          refine kSkip ?_
          refine kThen ?_
          refine kSeq ?_
          refine weak [(1, _), (2, _), (3, _), (4, _), (5, _), (6, _), (7, _), (14, _), (15, _), (16, _), (23, _), (24, _), (25, _), (26, _), (27, _), (28, _)] (.c rfl (.c rfl (.c rfl (.c rfl (.c rfl (.c rfl (.c rfl (.c rfl (.c rfl (.c rfl (.c rfl (.c rfl (.c rfl (.c rfl (.c rfl (.c rfl .n)))))))))))))))) ?_
          refine kRegion rfl ?_
          refine lV (yLoadA (vs := [_, _, _]) rfl A26 (cOwn 5 rfl rfl)) rfl rfl ?_
          refine lV (yMove rfl) rfl rfl ?_
          refine lV (yMove rfl) rfl rfl ?_
          refine lV (yCall rfl (.c rfl (.c rfl (.c rfl .n))) C21 (fun w hw => apart_any y p i k w (hm.eff0 hw) hL6)) rfl rfl ?_
          refine lV (yMove rfl) rfl rfl ?_
          refine lV (yExtract rfl rfl) rfl rfl ?_
          refine lV (yExtract rfl rfl) rfl rfl ?_
          refine lV (yExtract rfl rfl) rfl rfl ?_
          refine lE rfl ?_
          refine eStoreL 3 rfl rfl rfl rfl K23 rfl (rfl) ?_
          refine lE rfl ?_
          refine eStoreL 2 rfl rfl rfl rfl K23 rfl (rfl) ?_
          refine lV (yAssign rfl) rfl rfl ?_
          refine lNil ?_
          refine kThen ?_
          refine kSeq ?_
          refine kRegion rfl ?_
          refine lV (yLoadA (vs := [_, _, _]) rfl A26 (cOwn 4 rfl rfl)) rfl rfl ?_
          refine lV (yMove rfl) rfl rfl ?_
          refine lV (yMove rfl) rfl rfl ?_
          refine lV (yCall rfl (.c rfl (.c rfl (.c rfl .n))) C21 (fun w hw => apart_any (osA g0, osC g0) (movP p b t) i k w (hIn w (OS.rowsE (f := rowS) star0 hg' hw (.d 0 (.d 0 (.d 0 (.d 0 (.d 0 (.d 0 .r)))))))) hL6q)) rfl rfl ?_
          refine same (t := 192) (u := outC2 (apartE p i k)) rfl (by rw [mov_apart hp hq]) ?_
          refine lV (yMove rfl) rfl rfl ?_
          refine lV (yExtract rfl rfl) rfl rfl ?_
          refine lV (yExtract rfl rfl) rfl rfl ?_
          refine lV (yExtract rfl rfl) rfl rfl ?_
          refine lE rfl ?_
          refine eStoreL 1 rfl rfl rfl rfl K23 rfl (rfl) ?_
          refine lE rfl ?_
          refine eStoreL 0 rfl rfl rfl rfl K23 rfl (rfl) ?_
          refine lV (yAssign rfl) rfl rfl ?_
          refine lNil ?_
          refine kThen ?_
          refine kSeq ?_
          refine kRegion rfl ?_
          refine lV (yLoadA (vs := [_, _, _]) rfl A26 (cOwn 5 rfl rfl)) rfl rfl ?_
          refine lV (yCall rfl (.c rfl .n) C26 (fun w hw => clash_any y p w (hm.eff0 hw))) rfl rfl ?_
          refine lV (yMove rfl) rfl rfl ?_
          refine lV (yExtract rfl rfl) rfl rfl ?_
          refine lV (yExtract rfl rfl) rfl rfl ?_
          refine lV (yAssign rfl) rfl rfl ?_
          refine lV (yAssign rfl) rfl rfl ?_
          refine lNil ?_
          refine kThen ?_
          refine kSeq ?_
          refine kRegion rfl ?_
          refine lV (yLoadA (vs := [_, _, _]) rfl A26 (cOwn 4 rfl rfl)) rfl rfl ?_
          refine lV (yCall rfl (.c rfl .n) C26 (fun w hw => clash_any (osA g0, osC g0) (movP p b t) w (hIn w (OS.rowsE (f := rowS) star0 hg' hw (.d 0 (.d 0 (.d 0 (.d 0 (.d 0 (.d 0 .r)))))))))) rfl rfl ?_
          refine same (t := 203) (u := outI (clashE p)) rfl (by rw [mov_clash hp hq]) ?_
          refine lV (yMove rfl) rfl rfl ?_
          refine lV (yExtract rfl rfl) rfl rfl ?_
          refine lV (yExtract rfl rfl) rfl rfl ?_
          refine lV (yAssign rfl) rfl rfl ?_
          refine lV (yAssign rfl) rfl rfl ?_
          refine lNil ?_
          refine kThen ?_
          refine kSeq ?_
          refine kSeq ?_
          refine weak [(1, _), (2, _), (3, _), (4, _), (5, _), (6, _), (7, _), (14, _), (15, _), (16, _), (23, _), (24, _), (25, _), (26, _), (27, _), (28, _), (29, _), (30, _), (31, _), (32, _)] (.c rfl (.c rfl (.c rfl (.c rfl (.c rfl (.c rfl (.c rfl (.c rfl (.c rfl (.c rfl (.c rfl (.c rfl (.c rfl (.c rfl (.c rfl (.c rfl (.c rfl (.c rfl (.c rfl (.c rfl .n)))))))))))))))))))) ?_
          refine kRegion rfl ?_
          refine lV (yLoadA (vs := [_, _]) rfl A23 (cOwn 3 rfl rfl)) rfl rfl ?_
          refine lV (yLoadA (vs := [_, _]) rfl A23 (cOwn 1 rfl rfl)) rfl rfl ?_
          refine lV (yNeAgg rfl rfl G23 (fun w => Q23 w)) rfl rfl ?_
          refine knownB (t := 208) (c := false) rfl (by simp) ?_
          refine lV (yMove rfl) rfl rfl ?_
          refine lGY rfl rfl rfl (oV (yLoadA (vs := [_, _]) rfl A23 (cOwn 2 rfl rfl)) rfl ?_)
          refine lGY rfl rfl rfl (oV (yLoadA (vs := [_, _]) rfl A23 (cOwn 0 rfl rfl)) rfl ?_)
          refine lGY rfl rfl rfl (oV (yNeAgg rfl rfl G23 (fun w => Q23 w)) rfl ?_)
          refine knownB (t := 212) (c := false) rfl (by simp) ?_
          refine lV (yPickF rfl rfl) rfl rfl ?_
          refine lV (yMove rfl) rfl rfl ?_
          refine lGY rfl rfl rfl (oV (yMove rfl) rfl ?_)
          refine lGY rfl rfl rfl (oV (yMove rfl) rfl ?_)
          refine lGY rfl rfl rfl (oV (yNeq rfl rfl) rfl ?_)
          refine knownB (t := 217) (c := false) rfl (by simp) ?_
          refine lV (yPickF rfl rfl) rfl rfl ?_
          refine lV (yMove rfl) rfl rfl ?_
          refine lGY rfl rfl rfl (oV (yMove rfl) rfl ?_)
          refine lGY rfl rfl rfl (oV (yMove rfl) rfl ?_)
          refine lGY rfl rfl rfl (oV (yNeq rfl rfl) rfl ?_)
          refine knownB (t := 222) (c := false) rfl (by simp) ?_
          refine lV (yPickF rfl rfl) rfl rfl ?_
          refine lV (yMove rfl) rfl rfl ?_
          refine lGY rfl rfl rfl (oV (yMove rfl) rfl ?_)
          refine lGY rfl rfl rfl (oV (yMove rfl) rfl ?_)
          refine lGY rfl rfl rfl (oV (yNeq rfl rfl) rfl ?_)
          refine knownB (t := 227) (c := false) rfl (by simp) ?_
          refine lV (yPickF rfl rfl) rfl rfl ?_
          refine lNil ?_
          refine kThen ?_
          refine kIfF rfl ?_
          refine kSkip ?_
          refine kThen ?_
          refine kSeq ?_
          refine weak [(3, _), (4, _), (5, _), (6, _), (7, _), (14, _), (16, _), (23, _), (24, _), (25, _), (26, _), (27, _), (28, _)] (.c rfl (.c rfl (.c rfl (.c rfl (.c rfl (.c rfl (.c rfl (.c rfl (.c rfl (.c rfl (.c rfl (.c rfl (.c rfl .n))))))))))))) ?_
          refine kRegion rfl ?_
          refine lV (yLoadA (vs := [_, _, _]) rfl A26 (cOwn 5 rfl rfl)) rfl rfl ?_
          refine lV (yMove rfl) rfl rfl ?_
          refine lV (yMove rfl) rfl rfl ?_
          refine lV (yCall rfl (.c rfl (.c rfl (.c rfl .n))) C24 (fun w hw => find_any y p e n w (hm.eff0 hw))) rfl rfl ?_
          refine lV (yMove rfl) rfl rfl ?_
          refine lV (yExtract rfl rfl) rfl rfl ?_
          refine lV (yExtract rfl rfl) rfl rfl ?_
          refine lV (yExtract rfl rfl) rfl rfl ?_
          refine lE rfl ?_
          refine eStoreL 3 rfl rfl rfl rfl K23 rfl (rfl) ?_
          refine lE rfl ?_
          refine eStoreL 2 rfl rfl rfl rfl K23 rfl (rfl) ?_
          refine lV (yAssign rfl) rfl rfl ?_
          refine lNil ?_
          refine kThen ?_
          refine kSeq ?_
          refine kSeq ?_
          refine kRegion rfl ?_
          refine lV (yMove rfl) rfl rfl ?_
          refine lV (yEql rfl rfl) rfl rfl ?_
          refine split (t := 238) rfl (fun h238 => ?_) (fun h238 => ?_)
          · refine lNil ?_
            refine kThen ?_
            refine kIfT rfl ?_
            refine kSeq ?_
            refine kRegion rfl ?_
            refine lV (yCall rfl .n C14 (fun w hw => alive_any w)) rfl rfl ?_
            refine lV (yAssign rfl) rfl rfl ?_
            refine lNil ?_
            refine kThen ?_
            refine kRet ?_
            refine kThenR ?_
            refine fRet rfl (.t rfl .n) (endRet ?_)
            rfl
          · refine lNil ?_
            refine kThen ?_
            refine kIfF rfl ?_
            refine kSkip ?_
            refine kThen ?_
            refine kSeq ?_
            have hsk := find_sky hp h238
            have hse := of_decide_eq_true hsk.1
            have hsn := of_decide_eq_true hsk.2
            refine weak [(3, _), (4, _), (5, _), (6, _), (7, _), (14, _), (16, _), (23, _), (24, _), (25, _), (26, _), (27, _), (28, _)] (.c rfl (.c rfl (.c rfl (.c rfl (.c rfl (.c rfl (.c rfl (.c rfl (.c rfl (.c rfl (.c rfl (.c rfl (.c rfl .n))))))))))))) ?_
            refine kRegion rfl ?_
            refine lV (yLoadA (vs := [_, _, _]) rfl A26 (cOwn 4 rfl rfl)) rfl rfl ?_
            refine lV (yMove rfl) rfl rfl ?_
            refine lV (yMove rfl) rfl rfl ?_
            refine lV (yConvInt rfl U67 U3 (IntWalk.i64_in _ (i16_in hb))) rfl rfl ?_
            refine lV (yArith rfl rfl ((.inl ⟨rfl, IntWalk.i64_in _ (sky_add hse hb)⟩))) rfl rfl ?_
            refine lV (yMove rfl) rfl rfl ?_
            refine lV (yMove rfl) rfl rfl ?_
            refine lV (yConvInt rfl U67 U3 (IntWalk.i64_in _ (i16_in ht))) rfl rfl ?_
            refine lV (yArith rfl rfl ((.inl ⟨rfl, IntWalk.i64_in _ (sky_add hsn ht)⟩))) rfl rfl ?_
            refine lV (yCall rfl (.c rfl (.c rfl (.c rfl .n))) C24 (fun w hw => find_any (osA g0, osC g0) (movP p b t) (e + b) (n + t) w (hIn w (OS.rowsE (f := rowS) star0 hg' hw (.d 0 (.d 0 (.d 0 (.d 0 (.d 0 (.d 0 .r)))))))))) rfl rfl ?_
            refine lV (yMove rfl) rfl rfl ?_
            refine lV (yExtract rfl rfl) rfl rfl ?_
            refine lV (yExtract rfl rfl) rfl rfl ?_
            refine lV (yExtract rfl rfl) rfl rfl ?_
            refine lE rfl ?_
            refine eStoreL 1 rfl rfl rfl rfl K23 rfl (rfl) ?_
            refine lE rfl ?_
            refine eStoreL 0 rfl rfl rfl rfl K23 rfl (rfl) ?_
            refine lV (yAssign rfl) rfl rfl ?_
            refine lNil ?_
            refine kThen ?_
            refine kSeq ?_
            have hfe : ¬ (findE (movP p b t) (e + b) (n + t)).2.2 = 2 → findE (movP p b t) (e + b) (n + t) = findE p e n := fun h => by
              have h2 := find_sky hq h
              exact mov_find hp hq hsk.1 hsk.2 h2.1 h2.2
            refine weak [(14, _), (23, _), (24, _), (25, _), (26, _), (27, _), (28, _)] (.c rfl (.c rfl (.c rfl (.c rfl (.c rfl (.c rfl (.c rfl .n))))))) ?_
            refine kRegion rfl ?_
            refine lV (yMove rfl) rfl rfl ?_
            refine lV (yEql rfl rfl) rfl rfl ?_
            refine split (t := 255) rfl (fun h255 => ?_) (fun h255 => ?_)
            · refine lV (yMove rfl) rfl rfl ?_
              refine lGN rfl rfl rfl rfl rfl ?_
              refine lGN rfl rfl rfl rfl rfl ?_
              refine lGN rfl rfl rfl rfl rfl ?_
              refine lGN rfl rfl rfl rfl rfl ?_
              refine lGU rfl rfl rfl rfl ?_
              refine lGU rfl rfl rfl rfl ?_
              refine lGU rfl rfl rfl rfl ?_
              refine lGN rfl rfl rfl rfl rfl ?_
              refine lGN rfl rfl rfl rfl rfl ?_
              refine lGU rfl rfl rfl rfl ?_
              refine lGU rfl rfl rfl rfl ?_
              refine lGU rfl rfl rfl rfl ?_
              refine lGN rfl rfl rfl rfl rfl ?_
              refine lV (yPickT rfl rfl) rfl rfl ?_
              refine lV (yMove rfl) rfl rfl ?_
              refine lGY rfl rfl rfl (oV (yCall rfl .n C14 (fun w hw => alive_any w)) rfl ?_)
              refine lV (yPickT rfl rfl) rfl rfl ?_
              refine lV (yAssign rfl) rfl rfl ?_
              refine lNil ?_
              refine kThen ?_
              refine kRet ?_
              refine fRet rfl (.t rfl .n) (endRet ?_)
              rfl
            · refine lV (yMove rfl) rfl rfl ?_
              refine lGY rfl rfl rfl (oV (yLoadA (vs := [_, _]) rfl A23 (cOwn 3 rfl rfl)) rfl ?_)
              refine lGY rfl rfl rfl (oV (yLoadA (vs := [_, _]) rfl A23 (cOwn 1 rfl rfl)) rfl ?_)
              refine lGY rfl rfl rfl (oV (yEqAgg rfl rfl G23 (fun w => Q23 w)) rfl ?_)
              refine knownB (t := 259) (c := true) rfl (by rw [hfe h255]; simp) ?_
              refine lGY rfl rfl rfl (oV (yMove rfl) rfl ?_)
              refine lGY rfl rfl rfl (oV (yLoadA (vs := [_, _]) rfl A23 (cOwn 2 rfl rfl)) rfl ?_)
              refine lGY rfl rfl rfl (oV (yLoadA (vs := [_, _]) rfl A23 (cOwn 0 rfl rfl)) rfl ?_)
              refine lGY rfl rfl rfl (oV (yEqAgg rfl rfl G23 (fun w => Q23 w)) rfl ?_)
              refine knownB (t := 263) (c := true) rfl (by rw [hfe h255]; simp) ?_
              refine lGY rfl rfl rfl (oV (yPickT rfl rfl) rfl ?_)
              refine lGY rfl rfl rfl (oV (yMove rfl) rfl ?_)
              refine lGY rfl rfl rfl (oV (yMove rfl) rfl ?_)
              refine lGY rfl rfl rfl (oV (yMove rfl) rfl ?_)
              refine lGY rfl rfl rfl (oV (yEql rfl rfl) rfl ?_)
              refine known (t := 268) rfl (by rw [hfe h255]) ?_
              refine lGY rfl rfl rfl (oV (yPickT rfl rfl) rfl ?_)
              refine lV (yPickF rfl rfl) rfl rfl ?_
              refine lV (yMove rfl) rfl rfl ?_
              refine lGY rfl rfl rfl (oV (yCall rfl .n C14 (fun w hw => alive_any w)) rfl ?_)
              refine lV (yPickT rfl rfl) rfl rfl ?_
              refine lV (yAssign rfl) rfl rfl ?_
              refine lNil ?_
              refine kThen ?_
              refine kRet ?_
              refine fRet rfl (.t rfl .n) (endRet ?_)
              rfl

theorem pmoved_any (y : Option Addr × Nat) (p : Plt) (i k e n b t : Int) (w : World) (hm : InP w y p) (hb : -32768 ≤ b ∧ b ≤ 32767) (ht : -32768 ≤ t ∧ t ≤ 32767) :
    Calls Try.prog 10 [.agg (pltC y p).toArray, i64 i, i64 k, i64 e, i64 n, .int .i16 b, .int .i16 t].toArray w (Ret w (.bool true)) := by
  by_cases hp : PltOk p
  · exact pmoved_ok y p i k e n b t w hm hp hb ht
  · exact pmoved_bad y p i k e n b t w hm hp
end Go.Proofs.Ytlcdohhhhlhpmaa
