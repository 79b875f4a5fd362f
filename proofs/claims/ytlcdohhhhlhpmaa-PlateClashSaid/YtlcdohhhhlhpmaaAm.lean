/-
  Walks: how far apart two stars are, with a scale.
-/
import Derived.Test.YtlcdohhhhlhpmaaAl
namespace Go.Proofs.Ytlcdohhhhlhpmaa
open ZW

/-- The ends along both directions; the one that is kept now. -/
def endD (d : Bool) (o e : Ends) : List Value := match d with
  | false => endC2 e o
  | true => endC2 o e
theorem keepD_any : ∀ (d : Bool) (n : Nat) (o e : Ends) (x : Int) (w : World), w.heap[n]? = some (blk (endD d o e) 96) → Calls Try.prog 54 [.pointer (some ⟨n, bif d then 3 else 0, none⟩), i64 x].toArray w (Wr w n (blk (endD d o (keepE e x)) 96) (.tuple #[]))
  | false, n, o, e, x, w, h => keepA n e o x w h
  | true, n, o, e, x, w, h => keepB n o e x w h
/-- Corners that are tried. -/
def triedT (d : Bool) (l : List StarV) (sc : Int) (c : Int × Int) (n : Nat) : List Int :=
  (List.range n).foldl (fun t i => if (l.getD i star0).k = true then t ++ [(saidD d (l.getD i star0)).1 - (longP sc (imgD d (l.getD i star0))).1, (saidD d (l.getD i star0)).2 - (longP sc (imgD d (l.getD i star0))).2] else t) [c.1, c.2]
theorem triedT_succ (d : Bool) (l : List StarV) (sc : Int) (c : Int × Int) (n : Nat) : triedT d l sc c (n + 1) = if (l.getD n star0).k = true then triedT d l sc c n ++ [(saidD d (l.getD n star0)).1 - (longP sc (imgD d (l.getD n star0))).1, (saidD d (l.getD n star0)).2 - (longP sc (imgD d (l.getD n star0))).2] else triedT d l sc c n := range_foldl_succ _ _ _
theorem triedT_len (d : Bool) (l : List StarV) (sc : Int) (c : Int × Int) : ∀ n, (triedT d l sc c n).length ≤ 2 * n + 2
  | 0 => by simp [triedT]
  | n + 1 => by
    have ih := triedT_len d l sc c n
    rw [triedT_succ]
    split
    · rw [List.length_append]; simp only [List.length_cons, List.length_nil]; omega
    · omega
def triedP (d : Bool) (a b : StarV) (sc : Int) (c : Int × Int) : List Int := triedT d [a, b] sc c 2
def clampC (c : Int × Int) (n : Int) : Int := max c.1 (min c.2 n)
/-- What is kept of a corner. -/
def apartK (d : Bool) (a b : StarV) (sc : Int) (c : Int × Int) (n : Int) : List Int :=
  [(placeP d b sc (clampC c n)).1 - (placeP d a sc (clampC c n)).2, (placeP d b sc (clampC c n)).2 - (placeP d a sc (clampC c n)).1]
def apartG (d : Bool) (a b : StarV) (sc : Int) (c : Int × Int) : List Int := (triedP d a b sc c).flatMap (apartK d a b sc c)
def keptT (d : Bool) (a b : StarV) (sc : Int) (c : Int × Int) (e : Ends) (n : Nat) : Ends := (List.range n).foldl (fun e j => (apartK d a b sc c ((triedP d a b sc c).getD j 0)).foldl keepE e) e
theorem keptT_succ (d : Bool) (a b : StarV) (sc : Int) (c : Int × Int) (e : Ends) (n : Nat) : keptT d a b sc c e (n + 1) = (apartK d a b sc c ((triedP d a b sc c).getD n 0)).foldl keepE (keptT d a b sc c e n) := range_foldl_succ _ _ _
theorem foldl_flat (F : Int → List Int) : ∀ (l : List Int) (e : Ends), (List.range l.length).foldl (fun e j => (F (l.getD j 0)).foldl keepE e) e = (l.flatMap F).foldl keepE e := by
  intro l e
  have h : ∀ (l : List Int) (e : Ends), (l.flatMap F).foldl keepE e = l.foldl (fun e x => (F x).foldl keepE e) e := by
    intro l
    induction l with
    | nil => intro e; rfl
    | cons x l ih => intro e; rw [List.flatMap_cons, List.foldl_append, List.foldl_cons, ih]
  rw [h]
  have h2 : l = (List.range l.length).map fun j => l.getD j 0 := by
    refine List.ext_getElem? fun i => ?_
    by_cases hi : i < l.length
    · rw [List.getElem?_map, List.getElem?_range hi, List.getElem?_eq_getElem hi, Option.map_some, List.getElem_eq_getD (h := hi) (fallback := 0)]
    · rw [List.getElem?_eq_none (by omega), List.getElem?_eq_none (by simp; omega)]
  conv => rhs; rw [h2, List.foldl_map]

set_option maxRecDepth 100000 in
set_option maxHeartbeats 4000000 in
theorem apartW_any (pb ne : Nat) (d : Bool) (a b : StarV) (sc : Int) (c : Int × Int) (o e : Ends) (w : World) (ha : starOk a) (hb : starOk b) (hsc : 0 ≤ sc ∧ sc ≤ 1000) (hc : (-1099511627776 ≤ c.1 ∧ c.1 ≤ 1099511627776) ∧ -1099511627776 ≤ c.2 ∧ c.2 ≤ 1099511627776)
    (hne : w.heap[ne]? = some (blk (endD d o e) 96)) :
    Calls Try.prog 70 [.agg (wayC pb d).toArray, .agg (rowS a).toArray, .agg (rowS b).toArray, i64 sc, .agg (rowE c).toArray, .pointer (some ⟨ne, bif d then 3 else 0, none⟩)].toArray w (Wr w ne (blk (endD d o ((apartG d a b sc c).foldl keepE e)) 96) (.tuple #[])) := by
  have hab : ∀ i, i < 2 → starOk ([a, b].getD i star0) := fun i hi => by
    match i, hi with
    | 0, _ => exact ha
    | 1, _ => exact hb
  refine fEnterM (Eff.one hne) Try.func70 rfl Try.ntmps70 rfl ?_
  refine kSeq ?_
  refine kRegion rfl ?_
  refine lE rfl ?_
  refine eBoxA rfl fun n6 => ?_
  refine lE rfl ?_
  refine eBoxA rfl fun n7 => ?_
  refine lE rfl ?_
  refine eBoxA rfl fun n8 => ?_
  refine lE rfl ?_
  refine eBoxA rfl fun n10 => ?_
  refine lNil ?_
  refine kThen ?_
  refine kSeq ?_
  refine kRegion rfl ?_
  refine lV (yFieldAddr rfl F23_0) rfl rfl ?_
  refine lV (yLoad1 rfl O3 (cOwn 1 rfl rfl)) rfl rfl ?_
  refine lV (yFieldAddr rfl F23_1) rfl rfl ?_
  refine lV (yLoad1 rfl O3 (cOwn 1 rfl rfl)) rfl rfl ?_
  refine lE rfl ?_
  refine eBuildSlice (.c rfl (.c rfl .n)) (fun w => BS56_2_0_1 w) fun n27 => ?_
  refine lV (yAssign rfl) rfl rfl ?_
  refine lNil ?_
  refine kThen ?_
  refine kSeq ?_
  refine kSeq ?_
  refine kRegion rfl ?_
  refine lV (yLoadA (vs := [_, _, _, _, _, _, _, _, _]) rfl A58 (cOwn 4 rfl rfl)) rfl rfl ?_
  refine lV (yLoadA (vs := [_, _, _, _, _, _, _, _, _]) rfl A58 (cOwn 3 rfl rfl)) rfl rfl ?_
  refine lE rfl ?_
  refine eBuildSlice (.c rfl (.c rfl .n)) (fun w => BS24_2_0_1 w) fun n30 => ?_
  refine lV (yLen rfl S24) rfl rfl ?_
  refine lV (yMove rfl) rfl rfl ?_
  refine lNil ?_
  refine kThen ?_
  refine kBlock ?_
  refine kLoopX (ι := Nat × Own × List (List Value)) (fun x => x.1 ≤ 2 ∧ x.2.2 = (triedT d [a, b] sc c x.1).map rowI ∧ OS 1 x.2.1 x.2.2) (fun x => [(32, i64 (x.1 : Nat)), (12, osV x.2.1 x.2.2.length)]) [(0, _), (1, _), (2, _), (3, _), (4, _), (5, _), (6, _), (7, _), (8, _), (10, _), (23, _), (24, _), (25, _), (26, _), (27, _), (28, _), (29, _), (30, _), (31, _)] (fun x => [(ne, blk (endD d o e) 96)]) (fun x => osL 3 x.2.1) [(n30, _), (n10, _), (n8, _), (n7, _), (n6, _)] (fun x => 2 - x.1) (0, .b n27 2 [i64 c.1, i64 c.2], [[i64 c.1], [i64 c.2]]) (⟨by omega, rfl, OS.lit (es := [[i64 c.1], [i64 c.2]]) (by simp) rfl (by simp)⟩) rfl (.c rfl (.c rfl .n)) (.c rfl (.c rfl (.c rfl (.c rfl (.c rfl (.c rfl (.c rfl (.c rfl (.c rfl (.c rfl (.c rfl (.c rfl (.c rfl (.c rfl (.c rfl (.c rfl (.c rfl (.c rfl (.c rfl .n))))))))))))))))))) (.c 0 rfl (.c 1 rfl (.c 1 rfl (.c 1 rfl (.c 1 rfl (.c 0 rfl .n)))))) ?_
  rintro ⟨i, g, es⟩ ⟨hi, hes, hg⟩
  dsimp only at hi hes hg ⊢
  refine kSeq ?_
  refine kRegion rfl ?_
  refine lV (yLss rfl rfl) rfl rfl ?_
  refine lNil ?_
  refine kThen ?_
  refine kSeq ?_
  refine split (t := 33) rfl (fun h33 => ?_) (fun h33 => ?_)
  · refine kIfT rfl ?_
    refine kSkip ?_
    refine kThen ?_
    refine kSeq ?_
    refine kBlock ?_
    refine kSeq ?_
    refine kRegion rfl ?_
    refine lV (yIndexS  rfl rfl S24 ((fun w hw => sleRows (f := rowS) (fun _ => rfl) star0 [a, b] rfl (hw.blkAt 1 rfl))) ((by show i < 2; omega))) rfl rfl ?_
    refine lV (yLoadA (vs := [_, _, _, _, _, _, _, _, _]) rfl A58 (cSl0 ((fun w hw => sleRows (f := rowS) (fun _ => rfl) star0 [a, b] rfl (hw.blkAt 1 rfl))) ((by show i < 2; omega)) rfl)) rfl rfl ?_
    refine lE rfl ?_
    refine eAlloc Z58 fun n14 => ?_
    refine lE rfl ?_
    refine eStoreL 0 rfl rfl rfl rfl K58 rfl (rfl) ?_
    refine lNil ?_
    refine kThen ?_
    refine kSeq ?_
    refine kDrawE [(0, none), (2, none), (3, none), (5, none), (6, none), (7, none)] [] [0, 1, 2, 3, 4, 5, 6, 7] 4 hMix (by kernel_rfl) ?_
    refine .run rfl (yLoadA (vs := [_, _, _]) rfl A103 (cOwn 6 rfl rfl)) rfl rfl ?_
    refine .run rfl (yMove rfl) rfl rfl ?_
    refine .run rfl (yLoadA (vs := [_, _, _, _, _, _, _, _, _]) rfl A58 (cOwn 1 rfl rfl)) rfl rfl ?_
    refine .run rfl (yCall rfl (.c rfl (.c rfl (.c rfl .n))) C111 (fun w hw => long_any pb d sc _ w hsc (img_ok (hab i (by omega))))) rfl rfl ?_
    refine .run rfl (yFieldAddr rfl F103_2) rfl rfl ?_
    refine .run rfl (yLoad1 rfl O101 (cOwn 6 rfl rfl)) rfl rfl ?_
    refine .run rfl (yLoadA (vs := [_, _, _, _, _, _, _, _, _]) rfl A58 (cOwn 1 rfl rfl)) rfl rfl ?_
    refine .run rfl (yCall rfl (.c rfl .n) (said_c d) (fun w hw => said_any d _ w)) rfl rfl ?_
    refine .done ?_
    refine effStep 8 [9] (by kernel_rfl) closedSt (hLeft [0, 2, 3, 5, 6, 7] (by kernel_rfl) (.c (fun _ _ hs => hs.ef) (.c (fun _ _ hs => hs.ef) (.c (fun _ _ hs => hs.ef) (.c (fun _ _ hs => hs.ef) (.c (fun _ _ hs => hs.ef) (.c (fun _ _ hs => hs.ef) .n))))))) ?_
    refine (.c ?_ (.c ?_ .n))
    · refine effOne rfl (gNone rfl (fAlloc Z23)) ?_
      refine effStep 9 [] (by kernel_rfl) (closedEx fun n15 => closedSt) (hLeft [0, 2, 3, 5, 6, 7] (by kernel_rfl) (.c (fun _ _ ⟨n15, hs⟩ => hs.ef.sub (.c 1 rfl (.c 1 rfl (.c 1 rfl (.c 1 rfl (.c 1 rfl (.c 1 rfl (.d 0 .r)))))))) (.c (fun _ _ ⟨n15, hs⟩ => hs.ef.sub (.c 1 rfl (.c 1 rfl (.c 1 rfl (.c 1 rfl (.c 1 rfl (.c 1 rfl (.d 0 .r)))))))) (.c (fun _ _ ⟨n15, hs⟩ => hs.ef.sub (.c 1 rfl (.c 1 rfl (.c 1 rfl (.c 1 rfl (.c 1 rfl (.c 1 rfl (.d 0 .r)))))))) (.c (fun _ _ ⟨n15, hs⟩ => hs.ef.sub (.c 1 rfl (.c 1 rfl (.c 1 rfl (.c 1 rfl (.c 1 rfl (.c 1 rfl (.d 0 .r)))))))) (.c (fun _ _ ⟨n15, hs⟩ => hs.ef.sub (.c 1 rfl (.c 1 rfl (.c 1 rfl (.c 1 rfl (.c 1 rfl (.c 1 rfl (.d 0 .r)))))))) (.c (fun _ _ ⟨n15, hs⟩ => hs.ef.sub (.c 1 rfl (.c 1 rfl (.c 1 rfl (.c 1 rfl (.c 1 rfl (.c 1 rfl (.d 0 .r)))))))) .n))))))) ?_
      refine .c ?_ .n
      refine effOne rfl (opEx fun n15 => (gNone rfl (fAlloc Z23))) ?_
      refine effStep 10 [] (by kernel_rfl) (closedEx fun n15 => (closedEx fun n16 => closedSt)) (hLeft [0, 2, 3, 5, 6, 7] (by kernel_rfl) (.c (fun _ _ ⟨n15, ⟨n16, hs⟩⟩ => hs.ef.sub (.c 2 rfl (.c 2 rfl (.c 2 rfl (.c 2 rfl (.c 2 rfl (.c 2 rfl (.d 0 (.d 0 .r))))))))) (.c (fun _ _ ⟨n15, ⟨n16, hs⟩⟩ => hs.ef.sub (.c 2 rfl (.c 2 rfl (.c 2 rfl (.c 2 rfl (.c 2 rfl (.c 2 rfl (.d 0 (.d 0 .r))))))))) (.c (fun _ _ ⟨n15, ⟨n16, hs⟩⟩ => hs.ef.sub (.c 2 rfl (.c 2 rfl (.c 2 rfl (.c 2 rfl (.c 2 rfl (.c 2 rfl (.d 0 (.d 0 .r))))))))) (.c (fun _ _ ⟨n15, ⟨n16, hs⟩⟩ => hs.ef.sub (.c 2 rfl (.c 2 rfl (.c 2 rfl (.c 2 rfl (.c 2 rfl (.c 2 rfl (.d 0 (.d 0 .r))))))))) (.c (fun _ _ ⟨n15, ⟨n16, hs⟩⟩ => hs.ef.sub (.c 2 rfl (.c 2 rfl (.c 2 rfl (.c 2 rfl (.c 2 rfl (.c 2 rfl (.d 0 (.d 0 .r))))))))) (.c (fun _ _ ⟨n15, ⟨n16, hs⟩⟩ => hs.ef.sub (.c 2 rfl (.c 2 rfl (.c 2 rfl (.c 2 rfl (.c 2 rfl (.c 2 rfl (.d 0 (.d 0 .r))))))))) .n))))))) ?_
      refine .c ?_ .n
      refine effOne rfl (opEx fun n15 => (opEx fun n16 => (gNone rfl (fStoreL 1 rfl rfl rfl rfl K23 rfl (rfl))))) ?_
      refine effStep 11 [] (by kernel_rfl) (closedEx fun n15 => (closedEx fun n16 => closedSt)) (hLeft [] (by kernel_rfl) .n) ?_
      refine .c ?_ .n
      refine effOne rfl (opEx fun n15 => (opEx fun n16 => (gNone rfl (fStoreL 0 rfl rfl rfl rfl K23 rfl (rfl))))) ?_
      refine effDone (closedEx fun n15 => (closedEx fun n16 => closedSt)) (hLeft [] (by kernel_rfl) .n) (by kernel_rfl) ?_
      refine trEx fun n15 => ?_
      refine trEx fun n16 => ?_
      refine kThen ?_
      refine kSeq ?_
      refine kRegion rfl ?_
      refine lV (yFieldAddr rfl F58_2) rfl rfl ?_
      refine lV (yLoad1 rfl O4 (cOwn 3 rfl rfl)) rfl rfl ?_
      refine splitB (t := 45) rfl (fun h45 => ?_) (fun h45 => ?_)
      · refine lNil ?_
        refine kThen ?_
        refine kIfT rfl ?_
        have hl := long_bd (d := d) (hab i (by omega)) hsc
        have hsd := said_ok (d := d) (hab i (by omega)) h45
        have htl := triedT_len d [a, b] sc c i
        unfold spanOk at hsd
        refine kRegion rfl ?_
        refine lV (yMove rfl) rfl rfl ?_
        refine lV (yFieldAddr rfl F23_0) rfl rfl ?_
        refine lV (yLoad1 rfl O3 (cOwn 1 rfl rfl)) rfl rfl ?_
        refine lV (yFieldAddr rfl F23_0) rfl rfl ?_
        refine lV (yLoad1 rfl O3 (cOwn 2 rfl rfl)) rfl rfl ?_
        refine lV (ySub rfl rfl (by omega)) rfl rfl ?_
        refine lV (yFieldAddr rfl F23_1) rfl rfl ?_
        refine lV (yLoad1 rfl O3 (cOwn 1 rfl rfl)) rfl rfl ?_
        refine lV (yFieldAddr rfl F23_1) rfl rfl ?_
        refine lV (yLoad1 rfl O3 (cOwn 2 rfl rfl)) rfl rfl ?_
        refine lV (ySub rfl rfl (by omega)) rfl rfl ?_
        refine lE rfl ?_
        refine eBuildSlice (.c rfl (.c rfl .n)) (fun w => BS56_2_0_1 w) fun n57 => ?_
        refine lE rfl ?_
        skip
        refine eAppend (gs := g) [(n57, _), (n16, _), (n15, _), (n14, _), (n30, _), (n10, _), (n8, _), (n7, _), (n6, _)] [[i64 ((saidD d ([a, b].getD i star0)).1 - (longP sc (imgD d ([a, b].getD i star0))).1)], [i64 ((saidD d ([a, b].getD i star0)).2 - (longP sc (imgD d ([a, b].getD i star0))).2)]] AP56 rfl rfl .r hg rfl (by simp) (SlN.own 1 rfl rfl) (by simp [Value.oneCell']) (by simp [hes]; omega) (by simp [hes]; omega) fun h hh => ?_
        refine lV (yAssign rfl) rfl rfl ?_
        refine lNil ?_
        refine kInN ?_
        refine kThen ?_
        refine kRegion rfl ?_
        refine lV (yAdd rfl rfl (by omega)) rfl rfl ?_
        refine lV (yMove rfl) rfl rfl ?_
        refine lNil ?_
        exact kRoundX (i + 1, h, es ++ [[i64 ((saidD d ([a, b].getD i star0)).1 - (longP sc (imgD d ([a, b].getD i star0))).1)], [i64 ((saidD d ([a, b].getD i star0)).2 - (longP sc (imgD d ([a, b].getD i star0))).2)]]) (⟨by dsimp only; omega, by dsimp only; rw [triedT_succ, if_pos h45, hes]; simp, hh⟩) (by dsimp only; omega) rfl (.c rfl (.c rfl .n)) (.c rfl (.c rfl (.c rfl (.c rfl (.c rfl (.c rfl (.c rfl (.c rfl (.c rfl (.c rfl (.c rfl (.c rfl (.c rfl (.c rfl (.c rfl (.c rfl (.c rfl (.c rfl (.c rfl .n))))))))))))))))))) (.c 4 rfl (.c 4 rfl (.c 4 rfl (.c 4 rfl (.c 4 rfl (.d 0 (.d 0 (.d 0 (.d 0 .r)))))))))
      · refine lNil ?_
        refine kThen ?_
        refine kIfF rfl ?_
        refine kSkip ?_
        refine kInN ?_
        refine kThen ?_
        refine kRegion rfl ?_
        refine lV (yAdd rfl rfl (by omega)) rfl rfl ?_
        refine lV (yMove rfl) rfl rfl ?_
        refine lNil ?_
        exact kRoundX (i + 1, g, es) (⟨by dsimp only; omega, by dsimp only; rw [triedT_succ, if_neg (by rw [h45]; decide), hes], hg⟩) (by dsimp only; omega) rfl (.c rfl (.c rfl .n)) (.c rfl (.c rfl (.c rfl (.c rfl (.c rfl (.c rfl (.c rfl (.c rfl (.c rfl (.c rfl (.c rfl (.c rfl (.c rfl (.c rfl (.c rfl (.c rfl (.c rfl (.c rfl (.c rfl .n))))))))))))))))))) (.c 3 rfl (.c 3 rfl (.c 3 rfl (.c 3 rfl (.c 3 rfl (.d 0 (.d 0 (.d 0 .r))))))))
    · refine effOne rfl (gNone rfl (fAlloc Z23)) ?_
      refine effStep 8 [] (by kernel_rfl) (closedEx fun n16 => closedSt) (hLeft [0, 2, 3, 5, 6, 7] (by kernel_rfl) (.c (fun _ _ ⟨n16, hs⟩ => hs.ef.sub (.c 1 rfl (.c 1 rfl (.c 1 rfl (.c 1 rfl (.c 1 rfl (.c 1 rfl (.d 0 .r)))))))) (.c (fun _ _ ⟨n16, hs⟩ => hs.ef.sub (.c 1 rfl (.c 1 rfl (.c 1 rfl (.c 1 rfl (.c 1 rfl (.c 1 rfl (.d 0 .r)))))))) (.c (fun _ _ ⟨n16, hs⟩ => hs.ef.sub (.c 1 rfl (.c 1 rfl (.c 1 rfl (.c 1 rfl (.c 1 rfl (.c 1 rfl (.d 0 .r)))))))) (.c (fun _ _ ⟨n16, hs⟩ => hs.ef.sub (.c 1 rfl (.c 1 rfl (.c 1 rfl (.c 1 rfl (.c 1 rfl (.c 1 rfl (.d 0 .r)))))))) (.c (fun _ _ ⟨n16, hs⟩ => hs.ef.sub (.c 1 rfl (.c 1 rfl (.c 1 rfl (.c 1 rfl (.c 1 rfl (.c 1 rfl (.d 0 .r)))))))) (.c (fun _ _ ⟨n16, hs⟩ => hs.ef.sub (.c 1 rfl (.c 1 rfl (.c 1 rfl (.c 1 rfl (.c 1 rfl (.c 1 rfl (.d 0 .r)))))))) .n))))))) ?_
      refine .c ?_ .n
      refine effOne rfl (opEx fun n16 => (gNone rfl (fAlloc Z23))) ?_
      refine effStep 10 [] (by kernel_rfl) (closedEx fun n16 => (closedEx fun n15 => closedSt)) (hLeft [0, 2, 3, 5, 6, 7] (by kernel_rfl) (.c (fun _ _ ⟨n16, ⟨n15, hs⟩⟩ => hs.ef.sub (.c 2 rfl (.c 2 rfl (.c 2 rfl (.c 2 rfl (.c 2 rfl (.c 2 rfl (.d 0 (.d 0 .r))))))))) (.c (fun _ _ ⟨n16, ⟨n15, hs⟩⟩ => hs.ef.sub (.c 2 rfl (.c 2 rfl (.c 2 rfl (.c 2 rfl (.c 2 rfl (.c 2 rfl (.d 0 (.d 0 .r))))))))) (.c (fun _ _ ⟨n16, ⟨n15, hs⟩⟩ => hs.ef.sub (.c 2 rfl (.c 2 rfl (.c 2 rfl (.c 2 rfl (.c 2 rfl (.c 2 rfl (.d 0 (.d 0 .r))))))))) (.c (fun _ _ ⟨n16, ⟨n15, hs⟩⟩ => hs.ef.sub (.c 2 rfl (.c 2 rfl (.c 2 rfl (.c 2 rfl (.c 2 rfl (.c 2 rfl (.d 0 (.d 0 .r))))))))) (.c (fun _ _ ⟨n16, ⟨n15, hs⟩⟩ => hs.ef.sub (.c 2 rfl (.c 2 rfl (.c 2 rfl (.c 2 rfl (.c 2 rfl (.c 2 rfl (.d 0 (.d 0 .r))))))))) (.c (fun _ _ ⟨n16, ⟨n15, hs⟩⟩ => hs.ef.sub (.c 2 rfl (.c 2 rfl (.c 2 rfl (.c 2 rfl (.c 2 rfl (.c 2 rfl (.d 0 (.d 0 .r))))))))) .n))))))) ?_
      refine .c ?_ .n
      refine effOne rfl (opEx fun n16 => (opEx fun n15 => (gNone rfl (fStoreL 0 rfl rfl rfl rfl K23 rfl (rfl))))) ?_
      refine effStep 11 [] (by kernel_rfl) (closedEx fun n16 => (closedEx fun n15 => closedSt)) (hLeft [] (by kernel_rfl) .n) ?_
      refine .c ?_ .n
      refine effOne rfl (opEx fun n16 => (opEx fun n15 => (gNone rfl (fStoreL 1 rfl rfl rfl rfl K23 rfl (rfl))))) ?_
      refine effDone (closedEx fun n16 => (closedEx fun n15 => closedSt)) (hLeft [] (by kernel_rfl) .n) (by kernel_rfl) ?_
      refine trEx fun n16 => ?_
      refine trEx fun n15 => ?_
      refine kThen ?_
      refine kSeq ?_
      refine kRegion rfl ?_
      refine lV (yFieldAddr rfl F58_2) rfl rfl ?_
      refine lV (yLoad1 rfl O4 (cOwn 3 rfl rfl)) rfl rfl ?_
      refine splitB (t := 45) rfl (fun h45 => ?_) (fun h45 => ?_)
      · refine lNil ?_
        refine kThen ?_
        refine kIfT rfl ?_
        have hl := long_bd (d := d) (hab i (by omega)) hsc
        have hsd := said_ok (d := d) (hab i (by omega)) h45
        have htl := triedT_len d [a, b] sc c i
        unfold spanOk at hsd
        refine kRegion rfl ?_
        refine lV (yMove rfl) rfl rfl ?_
        refine lV (yFieldAddr rfl F23_0) rfl rfl ?_
        refine lV (yLoad1 rfl O3 (cOwn 2 rfl rfl)) rfl rfl ?_
        refine lV (yFieldAddr rfl F23_0) rfl rfl ?_
        refine lV (yLoad1 rfl O3 (cOwn 1 rfl rfl)) rfl rfl ?_
        refine lV (ySub rfl rfl (by omega)) rfl rfl ?_
        refine lV (yFieldAddr rfl F23_1) rfl rfl ?_
        refine lV (yLoad1 rfl O3 (cOwn 2 rfl rfl)) rfl rfl ?_
        refine lV (yFieldAddr rfl F23_1) rfl rfl ?_
        refine lV (yLoad1 rfl O3 (cOwn 1 rfl rfl)) rfl rfl ?_
        refine lV (ySub rfl rfl (by omega)) rfl rfl ?_
        refine lE rfl ?_
        refine eBuildSlice (.c rfl (.c rfl .n)) (fun w => BS56_2_0_1 w) fun n57 => ?_
        refine lE rfl ?_
        skip
        refine eAppend (gs := g) [(n57, _), (n15, _), (n16, _), (n14, _), (n30, _), (n10, _), (n8, _), (n7, _), (n6, _)] [[i64 ((saidD d ([a, b].getD i star0)).1 - (longP sc (imgD d ([a, b].getD i star0))).1)], [i64 ((saidD d ([a, b].getD i star0)).2 - (longP sc (imgD d ([a, b].getD i star0))).2)]] AP56 rfl rfl .r hg rfl (by simp) (SlN.own 1 rfl rfl) (by simp [Value.oneCell']) (by simp [hes]; omega) (by simp [hes]; omega) fun h hh => ?_
        refine lV (yAssign rfl) rfl rfl ?_
        refine lNil ?_
        refine kInN ?_
        refine kThen ?_
        refine kRegion rfl ?_
        refine lV (yAdd rfl rfl (by omega)) rfl rfl ?_
        refine lV (yMove rfl) rfl rfl ?_
        refine lNil ?_
        exact kRoundX (i + 1, h, es ++ [[i64 ((saidD d ([a, b].getD i star0)).1 - (longP sc (imgD d ([a, b].getD i star0))).1)], [i64 ((saidD d ([a, b].getD i star0)).2 - (longP sc (imgD d ([a, b].getD i star0))).2)]]) (⟨by dsimp only; omega, by dsimp only; rw [triedT_succ, if_pos h45, hes]; simp, hh⟩) (by dsimp only; omega) rfl (.c rfl (.c rfl .n)) (.c rfl (.c rfl (.c rfl (.c rfl (.c rfl (.c rfl (.c rfl (.c rfl (.c rfl (.c rfl (.c rfl (.c rfl (.c rfl (.c rfl (.c rfl (.c rfl (.c rfl (.c rfl (.c rfl .n))))))))))))))))))) (.c 4 rfl (.c 4 rfl (.c 4 rfl (.c 4 rfl (.c 4 rfl (.d 0 (.d 0 (.d 0 (.d 0 .r)))))))))
      · refine lNil ?_
        refine kThen ?_
        refine kIfF rfl ?_
        refine kSkip ?_
        refine kInN ?_
        refine kThen ?_
        refine kRegion rfl ?_
        refine lV (yAdd rfl rfl (by omega)) rfl rfl ?_
        refine lV (yMove rfl) rfl rfl ?_
        refine lNil ?_
        exact kRoundX (i + 1, g, es) (⟨by dsimp only; omega, by dsimp only; rw [triedT_succ, if_neg (by rw [h45]; decide), hes], hg⟩) (by dsimp only; omega) rfl (.c rfl (.c rfl .n)) (.c rfl (.c rfl (.c rfl (.c rfl (.c rfl (.c rfl (.c rfl (.c rfl (.c rfl (.c rfl (.c rfl (.c rfl (.c rfl (.c rfl (.c rfl (.c rfl (.c rfl (.c rfl (.c rfl .n))))))))))))))))))) (.c 3 rfl (.c 3 rfl (.c 3 rfl (.c 3 rfl (.c 3 rfl (.d 0 (.d 0 (.d 0 .r))))))))
  · refine kIfF rfl ?_
    refine kExit ?_
    refine kThenX ?_
    refine kThenX ?_
    refine kInX ?_
    refine kThen ?_
    refine kSeq ?_
    obtain rfl : i = 2 := by omega
    have hes2 : es = (triedP d a b sc c).map rowI := hes
    have htl := triedT_len d [a, b] sc c 2
    have hel : es.length = (triedP d a b sc c).length := by rw [hes2, List.length_map]
    rw [show triedT d [a, b] sc c 2 = triedP d a b sc c from rfl] at htl
    refine kRegion rfl ?_
    refine lV (yMove rfl) rfl rfl ?_
    refine lV (yLen rfl S56) rfl rfl ?_
    refine lV (yMove rfl) rfl rfl ?_
    refine lNil ?_
    refine kThen ?_
    refine kBlock ?_
    refine kLoopX (ι := Nat) (fun j => j ≤ (triedP d a b sc c).length) (fun j => [(62, i64 (j : Nat))]) [(0, _), (1, _), (2, _), (3, _), (4, _), (5, _), (6, _), (7, _), (8, _), (10, _), (23, _), (24, _), (25, _), (26, _), (27, _), (28, _), (29, _), (30, _), (31, _), (32, _), (12, _), (33, _), (60, _), (61, _)] (fun j => [(ne, blk (endD d o (keptT d a b sc c e j)) 96)]) (fun j => osL 3 g) [(n30, _), (n10, _), (n8, _), (n7, _), (n6, _)] (fun j => (triedP d a b sc c).length - j) 0 (Nat.zero_le _) rfl (.c rfl .n) (.c rfl (.c rfl (.c rfl (.c rfl (.c rfl (.c rfl (.c rfl (.c rfl (.c rfl (.c rfl (.c rfl (.c rfl (.c rfl (.c rfl (.c rfl (.c rfl (.c rfl (.c rfl (.c rfl (.c rfl (.c rfl (.c rfl (.c rfl (.c rfl .n)))))))))))))))))))))))) (.c 0 rfl (.c 0 rfl (.c 0 rfl (.c 0 rfl (.c 0 rfl .r))))) ?_
    rintro j hj
    refine kSeq ?_
    refine kRegion rfl ?_
    refine lV (yLss rfl rfl) rfl rfl ?_
    refine lNil ?_
    refine kThen ?_
    refine kSeq ?_
    refine split (t := 63) rfl (fun h63 => ?_) (fun h63 => ?_)
    · refine kIfT rfl ?_
      refine kSkip ?_
      refine kThen ?_
      refine kSeq ?_
      refine kBlock ?_
      refine kSeq ?_
      refine kRegion rfl ?_
      refine lV (yIndexS  rfl rfl S56 ((fun w hw => (OS.rowsE (f := rowI) (l := triedP d a b sc c) 0 (by rw [← hes2]; exact hg) hw (.d 0 (.d 0 (.d 0 (.d 0 (.d 0 .r)))))).congr hel fun i _ => rfl)) ((by omega))) rfl rfl ?_
      refine lV (yLoad1 rfl O3 (cSl0 ((fun w hw => (OS.rowsE (f := rowI) (l := triedP d a b sc c) 0 (by rw [← hes2]; exact hg) hw (.d 0 (.d 0 (.d 0 (.d 0 (.d 0 .r)))))).congr hel fun i _ => rfl)) ((by omega)) rfl)) rfl rfl ?_
      refine lV (yAssign rfl) rfl rfl ?_
      refine lNil ?_
      refine kThen ?_
      refine kSeq ?_
      refine kRegion rfl ?_
      refine lV (yFieldAddr rfl F23_0) rfl rfl ?_
      refine lV (yLoad1 rfl O3 (cOwn 2 rfl rfl)) rfl rfl ?_
      refine lV (yFieldAddr rfl F23_1) rfl rfl ?_
      refine lV (yLoad1 rfl O3 (cOwn 2 rfl rfl)) rfl rfl ?_
      refine lV (yMove rfl) rfl rfl ?_
      refine lV (yMin rfl rfl) rfl rfl ?_
      refine lV (yMax rfl rfl) rfl rfl ?_
      refine lV (yAssign rfl) rfl rfl ?_
      refine lNil ?_
      refine kThen ?_
      refine kSeq ?_
      refine kRegion rfl ?_
      refine lV (yLoadA (vs := [_, _, _]) rfl A103 (cOwn 5 rfl rfl)) rfl rfl ?_
      refine lV (yLoadA (vs := [_, _, _, _, _, _, _, _, _]) rfl A58 (cOwn 4 rfl rfl)) rfl rfl ?_
      refine lV (yMove rfl) rfl rfl ?_
      refine lV (yMove rfl) rfl rfl ?_
      refine lV (yCall rfl (.c rfl (.c rfl (.c rfl (.c rfl .n)))) C105 (fun w hw => place_any pb d a sc _ w ha hsc (by omega))) rfl rfl ?_
      refine lV (yMove rfl) rfl rfl ?_
      refine lV (yExtract rfl rfl) rfl rfl ?_
      refine lV (yExtract rfl rfl) rfl rfl ?_
      refine lV (yAssign rfl) rfl rfl ?_
      refine lV (yAssign rfl) rfl rfl ?_
      refine lNil ?_
      refine kThen ?_
      refine kSeq ?_
      refine kRegion rfl ?_
      refine lV (yLoadA (vs := [_, _, _]) rfl A103 (cOwn 5 rfl rfl)) rfl rfl ?_
      refine lV (yLoadA (vs := [_, _, _, _, _, _, _, _, _]) rfl A58 (cOwn 3 rfl rfl)) rfl rfl ?_
      refine lV (yMove rfl) rfl rfl ?_
      refine lV (yMove rfl) rfl rfl ?_
      refine lV (yCall rfl (.c rfl (.c rfl (.c rfl (.c rfl .n)))) C105 (fun w hw => place_any pb d b sc _ w hb hsc (by omega))) rfl rfl ?_
      refine lV (yMove rfl) rfl rfl ?_
      refine lV (yExtract rfl rfl) rfl rfl ?_
      refine lV (yExtract rfl rfl) rfl rfl ?_
      refine lV (yAssign rfl) rfl rfl ?_
      refine lV (yAssign rfl) rfl rfl ?_
      refine lNil ?_
      refine kThen ?_
      refine kSeq ?_
      have hpa := placeP_bd (d := d) ha hsc (c := max c.1 (min c.2 ((triedP d a b sc c).getD j 0))) (by omega)
      have hpb := placeP_bd (d := d) hb hsc (c := max c.1 (min c.2 ((triedP d a b sc c).getD j 0))) (by omega)
      refine kRegion rfl ?_
      refine lV (yMove rfl) rfl rfl ?_
      refine lV (yMove rfl) rfl rfl ?_
      refine lV (yMove rfl) rfl rfl ?_
      refine lV (ySub rfl rfl (by omega)) rfl rfl ?_
      refine lE rfl ?_
      refine eCallWM 0 rfl rfl (.c rfl (.c rfl .n)) C54 (fun w hw hb => keepD_any d ne o _ _ w hb) ?_
      refine lNil ?_
      refine kThen ?_
      refine kRegion rfl ?_
      refine lV (yMove rfl) rfl rfl ?_
      refine lV (yMove rfl) rfl rfl ?_
      refine lV (yMove rfl) rfl rfl ?_
      refine lV (ySub rfl rfl (by omega)) rfl rfl ?_
      refine lE rfl ?_
      refine eCallWM 0 rfl rfl (.c rfl (.c rfl .n)) C54 (fun w hw hb => keepD_any d ne o _ _ w hb) ?_
      refine lNil ?_
      refine kInN ?_
      refine kThen ?_
      refine kRegion rfl ?_
      refine lV (yAdd rfl rfl (by omega)) rfl rfl ?_
      refine lV (yMove rfl) rfl rfl ?_
      refine lNil ?_
      exact kRoundX (j + 1) (by omega) (by omega) (by rw [keptT_succ]; rfl) (.c rfl .n) (.c rfl (.c rfl (.c rfl (.c rfl (.c rfl (.c rfl (.c rfl (.c rfl (.c rfl (.c rfl (.c rfl (.c rfl (.c rfl (.c rfl (.c rfl (.c rfl (.c rfl (.c rfl (.c rfl (.c rfl (.c rfl (.c rfl (.c rfl (.c rfl .n)))))))))))))))))))))))) (.c 0 rfl (.c 0 rfl (.c 0 rfl (.c 0 rfl (.c 0 rfl .r)))))
    · refine kIfF rfl ?_
      refine kExit ?_
      refine kThenX ?_
      refine kThenX ?_
      refine kInX ?_
      refine fEnd rfl .n ?_
      obtain rfl : j = (triedP d a b sc c).length := by omega
      rw [show keptT d a b sc c e (triedP d a b sc c).length = (apartG d a b sc c).foldl keepE e from foldl_flat _ _ _]
      exact endW rfl rfl
end Go.Proofs.Ytlcdohhhhlhpmaa
