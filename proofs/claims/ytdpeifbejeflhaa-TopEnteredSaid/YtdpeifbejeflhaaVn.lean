/-
  Walks: the places that are not served.
-/
import Derived.Test.YtdpeifbejeflhaaVm
namespace Go.Proofs.Ytdpeifbejeflhaa
open ZW

abbrev outM (a b k : Int) (e : Int) : Value := .tuple [i64 a, i64 b, i64 k, i64 e].toArray
structure MOk (f : Fld) (s i : Nat) (k : Int) : Prop where
  b : 0 ≤ k ∧ k ≤ i
  z : k = 0 ↔ ∀ j, j < i → servB f (atI f j &&& s) = true
theorem MOk.yes {f : Fld} {s i : Nat} {k : Int} (h : MOk f s i k) (hs : servB f (atI f i &&& s) = true) : MOk f s (i + 1) k where
  b := by have := h.b; omega
  z := by
    rw [h.z]
    exact ⟨fun hj j hl => by rcases Nat.lt_or_ge j i with h1 | h1; (· exact hj j h1); (obtain rfl : j = i := by omega); exact hs, fun hj j hl => hj j (by omega)⟩
theorem MOk.no {f : Fld} {s i : Nat} {k : Int} (h : MOk f s i k) (hs : ¬ servB f (atI f i &&& s) = true) : MOk f s (i + 1) (k + 1) where
  b := by have := h.b; omega
  z := ⟨fun hk => by have := h.b; omega, fun hj => absurd (hj i (by omega)) hs⟩
section
variable (y : Option Addr × Nat) (f : Fld)
set_option maxRecDepth 100000 in
set_option maxHeartbeats 4000000 in
theorem missing_any (s : Nat) (w : World) (hm : InF w y f) (hF : FldOk f) (hG : f.times = 1 ∨ 1 ≤ f.gap) (hs : s ≤ fullF f) : Calls Try.prog 10 [.agg (fldC y f).toArray, i64 (s : Nat)].toArray w
    (RetX w (fun _ : Int × Int × Int => True) (fun x => outM x.1 x.2.1 x.2.2 (missE f s)) (fun _ => []) (fun _ => [])) := by
  have hfl := fullF_lt hF
  have hl12 := hF.l
  have hEE := hF.e
  have hNN := hF.n
  unfold spn at hEE hNN
  have hpn : plN f ≤ 1089 := by
    have h1 : plH f ≤ 33 := by unfold plH; omega
    have h2 : plW f ≤ 33 := by unfold plW; omega
    exact Nat.mul_le_mul h1 h2
  refine fEnter Try.func10 rfl Try.ntmps10 rfl ?_
  refine kSeq ?_
  refine kRegion rfl ?_
  refine lE rfl ?_
  refine eBoxA rfl fun n2 => ?_
  refine lE rfl ?_
  refine eBox1 rfl rfl fun n3 => ?_
  refine lE rfl ?_
  refine eAlloc Z3 fun n4 => ?_
  refine lE rfl ?_
  refine eAlloc Z3 fun n5 => ?_
  refine lE rfl ?_
  refine eAlloc Z3 fun n6 => ?_
  refine lE rfl ?_
  refine eAlloc Z33 fun n7 => ?_
  refine lNil ?_
  refine kThen ?_
  refine kSeq ?_
  refine kRegion rfl ?_
  refine lE rfl ?_
  refine eDefer rfl (.c rfl .n) ?_
  refine lNil ?_
  refine kThen ?_
  refine kSeq ?_
  refine kRegion rfl ?_
  refine lV (yLoadA (vs := [_, _, _, _, _, _, _, _, _, _]) rfl A30 (cOwn 5 rfl rfl)) rfl rfl ?_
  refine lE rfl ?_
  refine eCallO rfl (.c rfl .n) C23 (fun w hw => open_any y f w (hm.eff0 hw) hF) fun x hx => ?_
  obtain ⟨nf, nm, es⟩ := x
  dsimp only at hx ⊢
  refine lE rfl ?_
  refine eAlloc Z69 fun n8 => ?_
  refine lE rfl ?_
  refine eStoreL 0 rfl rfl rfl rfl K69 rfl (rfl) ?_
  refine lNil ?_
  refine kThen ?_
  refine kSeq ?_
  refine kRegion rfl ?_
  refine lV (yLoad1 rfl O69 (cOwn 0 rfl rfl)) rfl rfl ?_
  refine lV (yLoad1 rfl O3 (cOwn 5 rfl rfl)) rfl rfl ?_
  refine lE rfl ?_
  refine eCallX rfl (.c rfl (.c rfl .n)) C29 (Lx := fun _ : Unit => []) (φ := fun _ => True) (v := fun _ => .bool true) (fun w hw => (isSet_any y f (useS f) nm nf (s : Nat) w (hw.blkAt 7 rfl) hl12).mono fun e w' h => ⟨(), trivial, by rw [h.1, decide_eq_true (by have : s ≤ 2 ^ f.ps.length - 1 := hs; omega)], h.2⟩) fun _ _ => ?_
  refine lV (yCall rfl (.c rfl (.c rfl .n)) C28 (fun w hw => kmust_ok 2 w)) rfl rfl ?_
  refine lNil ?_
  refine kThen ?_
  refine kSeq ?_
  refine kSeq ?_
  refine kRegion rfl ?_
  refine lV (yLoad1 rfl O69 (cOwn 0 rfl rfl)) rfl rfl ?_
  refine lE rfl ?_
  refine eCallX rfl (.c rfl .n) C30 (fun w hw => places_any nf w) fun nb _ => ?_
  refine lNil ?_
  refine kThen ?_
  refine kBlock ?_
  refine kRangeC (.ret) [(nb, _), (nf, _)] (plV' f) (plN f) (plN f) (fun i C => ∃ a b k : Int, MOk f s i k ∧ C = [(n8, blk [.pointer (some ⟨nf, 0, none⟩)] 69), (n7, blk [i64 0] 33), (n6, blk [i64 k] 3), (n5, blk [i64 b] 3), (n4, blk [i64 a] 3), (n3, blk [i64 (s : Nat)] 3), (n2, blk (fldC y f) 30), (nm, mapP es)]) (fun _ => False) [(n8, _), (n7, _), (n6, _), (n5, _), (n4, _), (n3, _), (n2, _), (nm, _)] rfl C53 rfl (.h rfl (.c 7 rfl (.h rfl (.h rfl (.h rfl (.h rfl (.h rfl (.h rfl (.h rfl (.h rfl .n)))))))))) (⟨0, 0, 0, ⟨⟨by omega, by omega⟩, ⟨fun _ j hj => absurd hj (by omega), fun _ => rfl⟩⟩, rfl⟩) (places2_any y f (useS f) nm nf nb w hF) ?_ ?_ ?_ ?_
  · intro l r i C Z hi hC hr
    obtain ⟨a, b, k, hK, rfl⟩ := hC
    have hkb := hK.b
    have hal := atI_lt f hF i
    have hle := Nat.and_le_left (n := atI f i) (m := s)
    refine kRegion rfl ?_
    refine lE rfl ?_
    refine eAlloc Z87 fun n9 => ?_
    refine lE rfl ?_
    refine eStoreL 0 rfl rfl rfl rfl K87 rfl (rfl) ?_
    refine lNil ?_
    refine kThen ?_
    refine rBeginI (i := 1) rfl hr.1 ?_
    refine kBlock ?_
    refine kSeq ?_
    refine kSeq ?_
    by_cases hsv : servB f (atI f i &&& s) = true
    · refine kDrawE [(0, none), (1, none), (4, none), (5, none), (6, none), (7, none), (10, none)] [] [0, 1, 2, 3, 4, 5, 6, 7, 8, 9, 10] 0 hMix (by kernel_rfl) ?_
      refine .run rfl (yLoad1 rfl O69 (cOwn 4 rfl rfl)) rfl rfl ?_
      refine .run rfl (yLoad1 rfl O69 (cOwn 4 rfl rfl)) rfl rfl ?_
      refine .run rfl (yNilCheckP rfl) rfl rfl ?_
      refine .run rfl (yFieldAddr rfl F81_2) rfl rfl ?_
      refine .run rfl (yLoad1 rfl O79 (cOwn 3 rfl rfl)) rfl rfl ?_
      refine .run rfl (yLoadA (vs := [_, _]) rfl A87 (cOwn 0 rfl rfl)) rfl rfl ?_
      refine .run rfl (yvSame (u := u64 (atI f i)) (yLookupP (p := plP f i) HMP79 rfl rfl (fun w hw => ⟨es, hw.blkAt 11 rfl, (hx _ _).2 id⟩)) (rfl)) rfl rfl ?_
      refine .run rfl (yLoad1 rfl O3 (cOwn 9 rfl rfl)) rfl rfl ?_
      refine .run rfl (yConvInt rfl U3 U71 (conv_ok (by omega))) rfl rfl ?_
      refine .run rfl (yAnd rfl rfl rfl (by omega) (by omega)) rfl rfl ?_
      refine .run rfl (yvIs (c := true) (yCall rfl (.c rfl (.c rfl .n)) C31 (fun w hw => serves_any y f (useS f) nm nf (atI f i &&& s) w (hw.blkAt 3 rfl) (hm.eff0 hw) hF hG (by omega))) (hsv)) rfl rfl ?_
      refine .done ?_
      refine effDone closedSt (hLeft [0, 1, 4, 5, 6, 7, 10] (by kernel_rfl) (.c (fun _ _ hs => hs.ef) (.c (fun _ _ hs => hs.ef) (.c (fun _ _ hs => hs.ef) (.c (fun _ _ hs => hs.ef) (.c (fun _ _ hs => hs.ef) (.c (fun _ _ hs => hs.ef) (.c (fun _ _ hs => hs.ef) .n)))))))) (by kernel_rfl) ?_
      refine kThen ?_
      refine kIfT rfl ?_
      refine kExit ?_
      refine kThenX ?_
      refine kInX ?_
      exact rNormalI 1 rfl hr [(n8, _), (n7, _), (n6, _), (n5, _), (n4, _), (n3, _), (n2, _), (nm, _)] ⟨a, b, k, hK.yes hsv, rfl⟩ (.k rfl (.h rfl (.h rfl (.h rfl (.h rfl (.h rfl (.h rfl (.h rfl (.h rfl (.h rfl (.h rfl (.h rfl .r))))))))))))
    · refine kDrawE [(0, none), (1, none), (4, none), (5, none), (6, none), (7, none), (10, none)] [] [0, 1, 2, 3, 4, 5, 6, 7, 8, 9, 10] 0 hMix (by kernel_rfl) ?_
      refine .run rfl (yLoad1 rfl O69 (cOwn 4 rfl rfl)) rfl rfl ?_
      refine .run rfl (yLoad1 rfl O69 (cOwn 4 rfl rfl)) rfl rfl ?_
      refine .run rfl (yNilCheckP rfl) rfl rfl ?_
      refine .run rfl (yFieldAddr rfl F81_2) rfl rfl ?_
      refine .run rfl (yLoad1 rfl O79 (cOwn 3 rfl rfl)) rfl rfl ?_
      refine .run rfl (yLoadA (vs := [_, _]) rfl A87 (cOwn 0 rfl rfl)) rfl rfl ?_
      refine .run rfl (yvSame (u := u64 (atI f i)) (yLookupP (p := plP f i) HMP79 rfl rfl (fun w hw => ⟨es, hw.blkAt 11 rfl, (hx _ _).2 id⟩)) (rfl)) rfl rfl ?_
      refine .run rfl (yLoad1 rfl O3 (cOwn 9 rfl rfl)) rfl rfl ?_
      refine .run rfl (yConvInt rfl U3 U71 (conv_ok (by omega))) rfl rfl ?_
      refine .run rfl (yAnd rfl rfl rfl (by omega) (by omega)) rfl rfl ?_
      refine .run rfl (yvIs (c := false) (yCall rfl (.c rfl (.c rfl .n)) C31 (fun w hw => serves_any y f (useS f) nm nf (atI f i &&& s) w (hw.blkAt 3 rfl) (hm.eff0 hw) hF hG (by omega))) (by simpa using hsv)) rfl rfl ?_
      refine .done ?_
      refine effDone closedSt (hLeft [0, 1, 4, 5, 6, 7, 10] (by kernel_rfl) (.c (fun _ _ hs => hs.ef) (.c (fun _ _ hs => hs.ef) (.c (fun _ _ hs => hs.ef) (.c (fun _ _ hs => hs.ef) (.c (fun _ _ hs => hs.ef) (.c (fun _ _ hs => hs.ef) (.c (fun _ _ hs => hs.ef) .n)))))))) (by kernel_rfl) ?_
      refine kThen ?_
      refine kIfF rfl ?_
      refine kSkip ?_
      refine kThen ?_
      refine kSeq ?_
      refine kSeq ?_
      refine kRegion rfl ?_
      refine lV (yLoad1 rfl O3 (cOwn 6 rfl rfl)) rfl rfl ?_
      refine lV (yEql rfl rfl) rfl rfl ?_
      refine split (t := 31) rfl (fun h31 => ?_) (fun h31 => ?_)
      · refine lNil ?_
        refine kThen ?_
        refine kIfT rfl ?_
        refine kDrawE [(1, none), (3, some [0, 1, 2, 3, 4, 5, 6, 7, 9, 10, 11])] [] [0, 1, 2, 3] 2 hMix (by kernel_rfl) ?_
        refine .run rfl (yFieldAddr rfl F87_0) rfl rfl ?_
        refine .run rfl (yLoad1 rfl O3 (cOwn 0 rfl rfl)) rfl rfl ?_
        refine .run rfl (yFieldAddr rfl F87_1) rfl rfl ?_
        refine .run rfl (yLoad1 rfl O3 (cOwn 0 rfl rfl)) rfl rfl ?_
        refine .done ?_
        refine effStep 4 [] (by kernel_rfl) closedSt (hLeft [1, 3] (by kernel_rfl) (.c (fun _ _ hs => hs.ef) (.c (fun _ _ hs => hs.ef.sub (.h rfl (.h rfl (.h rfl (.h rfl (.h rfl (.h rfl (.h rfl (.h rfl (.k rfl (.h rfl (.h rfl (.h rfl .n))))))))))))) .n))) ?_
        refine .c ?_ .n
        refine effOne rfl (gNone rfl (fStoreL 8 rfl rfl rfl rfl K3 rfl (rfl))) ?_
        refine effStep 5 [] (by kernel_rfl) closedSt (hLeft [3] (by kernel_rfl) (.c (fun _ _ hs => hs.ef.sub (.h rfl (.h rfl (.h rfl (.h rfl (.h rfl (.h rfl (.h rfl (.h rfl (.k rfl (.h rfl (.h rfl (.h rfl .n))))))))))))) .n)) ?_
        refine .c ?_ .n
        refine effOne rfl (gNone rfl (fStoreL 7 rfl rfl rfl rfl K3 rfl (rfl))) ?_
        refine effDone closedSt (hLeft [] (by kernel_rfl) .n) (by kernel_rfl) ?_
        refine kThen ?_
        refine kRegion rfl ?_
        refine lV (yLoad1 rfl O3 (cOwn 6 rfl rfl)) rfl rfl ?_
        refine lV (yAdd rfl rfl (by omega)) rfl rfl ?_
        refine lE rfl ?_
        refine eStoreL 6 rfl rfl rfl rfl K3 rfl (rfl) ?_
        refine lNil ?_
        refine kInN ?_
        exact rNormalI 1 rfl hr [(n8, _), (n7, _), (n6, _), (n5, _), (n4, _), (n3, _), (n2, _), (nm, _)] ⟨(plP f i).1, (plP f i).2, k + 1, hK.no hsv, rfl⟩ (.k rfl (.h rfl (.h rfl (.h rfl (.h rfl (.h rfl (.h rfl (.h rfl (.h rfl (.h rfl (.h rfl (.h rfl .r))))))))))))
      · refine lNil ?_
        refine kThen ?_
        refine kIfF rfl ?_
        refine kSkip ?_
        refine kThen ?_
        refine kRegion rfl ?_
        refine lV (yLoad1 rfl O3 (cOwn 6 rfl rfl)) rfl rfl ?_
        refine lV (yAdd rfl rfl (by omega)) rfl rfl ?_
        refine lE rfl ?_
        refine eStoreL 6 rfl rfl rfl rfl K3 rfl (rfl) ?_
        refine lNil ?_
        refine kInN ?_
        exact rNormalI 1 rfl hr [(n8, _), (n7, _), (n6, _), (n5, _), (n4, _), (n3, _), (n2, _), (nm, _)] ⟨a, b, k + 1, hK.no hsv, rfl⟩ (.k rfl (.h rfl (.h rfl (.h rfl (.h rfl (.h rfl (.h rfl (.h rfl (.h rfl (.h rfl (.h rfl (.h rfl .r))))))))))))
  · exact fun h => absurd h (Nat.lt_irrefl _)
  · intro _ C hC r l o
    obtain ⟨a, b, k, hK, rfl⟩ := hC
    refine kInN ?_
    refine kThen ?_
    refine kSeq ?_
    refine kSeq ?_
    have hmi : missE f s = if k = 0 then 4 else 0 := by
      unfold missE listB
      by_cases hk : k = 0
      · rw [if_pos hk, if_pos (decide_eq_true (hK.z.1 hk))]
      · rw [if_neg hk, if_neg (by rw [decide_eq_true_eq]; exact fun h => hk (hK.z.2 h))]
    refine kRegion rfl ?_
    refine lV (yLoad1 rfl O3 (cOwn 6 rfl rfl)) rfl rfl ?_
    refine lV (yEql rfl rfl) rfl rfl ?_
    refine split (t := 39) rfl (fun h39 => ?_) (fun h39 => ?_)
    · refine lNil ?_
      refine kThen ?_
      refine kIfT rfl ?_
      refine kSeq ?_
      refine kRegion rfl ?_
      refine lE rfl ?_
      refine eStoreL 8 rfl rfl rfl rfl K3 rfl (rfl) ?_
      refine lE rfl ?_
      refine eStoreL 7 rfl rfl rfl rfl K3 rfl (rfl) ?_
      refine lE rfl ?_
      refine eStoreL 6 rfl rfl rfl rfl K3 rfl (rfl) ?_
      refine lE rfl ?_
      refine eStoreL 5 rfl rfl rfl rfl K33 rfl (rfl) ?_
      refine lNil ?_
      refine kThen ?_
      refine kRet ?_
      refine kThenR ?_
      refine fMark 1 rfl (.inl rfl) ?_
      refine kfRetE rfl (.c1 rfl O3 (cOwn 8 rfl rfl) (.c1 rfl O3 (cOwn 7 rfl rfl) (.c1 rfl O3 (cOwn 6 rfl rfl) (.c1 rfl O33 (cOwn 5 rfl rfl) .n)))) ?_
      rw [hmi, if_pos h39]
      exact endX (0, 0, 0) trivial rfl rfl .n
    · refine lNil ?_
      refine kThen ?_
      refine kIfF rfl ?_
      refine kSkip ?_
      refine kThen ?_
      refine kSeq ?_
      refine kDrawE [(0, none), (1, some [0, 1, 2, 3, 4, 5, 6, 7, 9, 10, 11]), (2, some [0, 1, 2, 3, 4, 5, 6, 9, 10, 11])] [] [0, 1, 2] 4 hMix (by kernel_rfl) ?_
      refine .run rfl (yLoad1 rfl O3 (cOwn 8 rfl rfl)) rfl rfl ?_
      refine .run rfl (yLoad1 rfl O3 (cOwn 7 rfl rfl)) rfl rfl ?_
      refine .run rfl (yLoad1 rfl O3 (cOwn 6 rfl rfl)) rfl rfl ?_
      refine .done ?_
      refine effStep 3 [] (by kernel_rfl) closedSt (hLeft [0, 1, 2] (by kernel_rfl) (.c (fun _ _ hs => hs.ef) (.c (fun _ _ hs => hs.ef.sub (.h rfl (.h rfl (.h rfl (.h rfl (.h rfl (.h rfl (.h rfl (.h rfl (.k rfl (.h rfl (.h rfl (.h rfl .n))))))))))))) (.c (fun _ _ hs => hs.ef.sub (.h rfl (.h rfl (.h rfl (.h rfl (.h rfl (.h rfl (.h rfl (.k rfl (.k rfl (.h rfl (.h rfl (.h rfl .n))))))))))))) .n)))) ?_
      refine .c ?_ .n
      refine effOne rfl (gNone rfl (fStoreL 8 rfl rfl rfl rfl K3 rfl (rfl))) ?_
      refine effStep 4 [] (by kernel_rfl) closedSt (hLeft [1, 2] (by kernel_rfl) (.c (fun _ _ hs => hs.ef.sub (.h rfl (.h rfl (.h rfl (.h rfl (.h rfl (.h rfl (.h rfl (.h rfl (.k rfl (.h rfl (.h rfl (.h rfl .n))))))))))))) (.c (fun _ _ hs => hs.ef.sub (.h rfl (.h rfl (.h rfl (.h rfl (.h rfl (.h rfl (.h rfl (.k rfl (.k rfl (.h rfl (.h rfl (.h rfl .n))))))))))))) .n))) ?_
      refine .c ?_ .n
      refine effOne rfl (gNone rfl (fStoreL 7 rfl rfl rfl rfl K3 rfl (rfl))) ?_
      refine effStep 5 [] (by kernel_rfl) closedSt (hLeft [2] (by kernel_rfl) (.c (fun _ _ hs => hs.ef.sub (.h rfl (.h rfl (.h rfl (.h rfl (.h rfl (.h rfl (.h rfl (.k rfl (.k rfl (.h rfl (.h rfl (.h rfl .n))))))))))))) .n)) ?_
      refine .c ?_ .n
      refine effOne rfl (gNone rfl (fStoreL 6 rfl rfl rfl rfl K3 rfl (rfl))) ?_
      refine effStep 6 [] (by kernel_rfl) closedSt (hLeft [] (by kernel_rfl) .n) ?_
      refine .c ?_ .n
      refine effOne rfl (gNone rfl (fStoreL 5 rfl rfl rfl rfl K33 rfl (rfl))) ?_
      refine effDone closedSt (hLeft [] (by kernel_rfl) .n) (by kernel_rfl) ?_
      refine kThen ?_
      refine kRet ?_
      refine fMark 1 rfl (.inl rfl) ?_
      refine kfRetE rfl (.c1 rfl O3 (cOwn 8 rfl rfl) (.c1 rfl O3 (cOwn 7 rfl rfl) (.c1 rfl O3 (cOwn 6 rfl rfl) (.c1 rfl O33 (cOwn 5 rfl rfl) .n)))) ?_
      rw [hmi, if_neg h39]
      exact endX (a, b, k) trivial rfl rfl .n
  · exact fun h => absurd h (Nat.lt_irrefl _)
end
end Go.Proofs.Ytdpeifbejeflhaa
