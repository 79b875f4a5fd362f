/-
  Walks: the shortest list, the plates that are needed, the places that are not served.
-/
import Derived.Test.YtdpeifbejeflhaaVk
namespace Go.Proofs.Ytdpeifbejeflhaa
open ZW

abbrev outI (r : Int × Int) : Value := .tuple [i64 r.1, i64 r.2].toArray
def shortE (f : Fld) : Int × Int := match bestS (goodB f) (fullF f + 1) with
  | some s => ((s : Nat), 0)
  | none => (0, 4)
def needB (f : Fld) (i : Nat) : Bool := useB f i && !listB f (less (useS f) (1 * 2 ^ i))
def needE (f : Fld) : Int × Int := if listB f (useS f) = true then ((setB (needB f) f.ps.length : Nat), 0) else (0, 4)
def missE (f : Fld) (s : Nat) : Int := if listB f s = true then 4 else 0
section
variable (y : Option Addr × Nat) (f : Fld)
section
variable (U nm nf : Nat)
set_option maxRecDepth 100000 in
set_option maxHeartbeats 2000000 in
theorem places2_any (nb : Nat) (W : World) (hF : FldOk f) :
    IterC Try.prog 53 [.pointer (some ⟨nb, 0, none⟩)] W [(nb, blk [.pointer (some ⟨nf, 0, none⟩)] 69), (nf, blk (fieldC y f U nm) 81)] (plV' f) (plN f) (plN f) := by
  intro l φ ψ w C hC hE hgo _
  have hEE := hF.e
  have hNN := hF.n
  unfold spn at hEE hNN
  have hw0 : 0 < plW f := by unfold plW; omega
  have hwd : (plW f : Int) = f.n.2 - f.n.1 + 1 := by unfold plW; omega
  have hhd : (plH f : Int) = f.e.2 - f.e.1 + 1 := by unfold plH; omega
  refine fEnterE hE Try.func53 rfl Try.ntmps53 rfl ?_
  refine kSeq ?_
  refine kRegion rfl ?_
  refine lV (yLoad1 rfl O69 (cOwn 0 rfl rfl)) rfl rfl ?_
  refine lV (yNilCheckP rfl) rfl rfl ?_
  refine lV (yFieldAddr rfl F81_0) rfl rfl ?_
  refine lV (yFieldAddr rfl F30_1) rfl rfl ?_
  refine lV (yFieldAddr rfl F24_0) rfl rfl ?_
  refine lV (yLoad1 rfl O3 (cOwn 1 rfl rfl)) rfl rfl ?_
  refine lV (yAssign rfl) rfl rfl ?_
  refine lNil ?_
  refine kThen ?_
  refine kBlock ?_
  refine kLoopX (ι := Nat × Heap) (fun x => x.1 ≤ plH f ∧ φ (x.1 * plW f) x.2) (fun x => [(3, i64 (f.e.1 + (x.1 : Nat)))]) [(0, _), (1, _), (5, _), (6, _), (7, _), (8, _), (9, _), (10, _)] (fun x => []) (fun x => ([(nb, blk [.pointer (some ⟨nf, 0, none⟩)] 69), (nf, blk (fieldC y f U nm) 81)] ++ x.2)) [] (fun x => plH f - x.1) (0, C) (⟨Nat.zero_le _, by dsimp only; rw [Nat.zero_mul]; exact hC⟩) rfl (.c (by dsimp only; rw [Int.natCast_zero, Int.add_zero]; rfl) .n) (.c rfl (.c rfl (.c rfl (.c rfl (.c rfl (.c rfl (.c rfl (.c rfl .n)))))))) .r ?_
  rintro ⟨r, C⟩ ⟨hr, hC⟩
  dsimp only at hr hC ⊢
  refine kSeq ?_
  refine kSeq ?_
  refine kRegion rfl ?_
  refine lV (yMove rfl) rfl rfl ?_
  refine lV (yLoad1 rfl O69 (cOwn 0 rfl rfl)) rfl rfl ?_
  refine lV (yNilCheckP rfl) rfl rfl ?_
  refine lV (yFieldAddr rfl F81_0) rfl rfl ?_
  refine lV (yFieldAddr rfl F30_1) rfl rfl ?_
  refine lV (yFieldAddr rfl F24_1) rfl rfl ?_
  refine lV (yLoad1 rfl O3 (cOwn 1 rfl rfl)) rfl rfl ?_
  refine lV (yLeq rfl rfl) rfl rfl ?_
  refine split (t := 18) rfl (fun h18 => ?_) (fun h18 => ?_)
  · refine lNil ?_
    refine kThen ?_
    refine kIfT rfl ?_
    refine kSkip ?_
    refine kThen ?_
    refine kSeq ?_
    refine kBlock ?_
    refine kSeq ?_
    refine kRegion rfl ?_
    refine lV (yLoad1 rfl O69 (cOwn 0 rfl rfl)) rfl rfl ?_
    refine lV (yNilCheckP rfl) rfl rfl ?_
    refine lV (yFieldAddr rfl F81_0) rfl rfl ?_
    refine lV (yFieldAddr rfl F30_2) rfl rfl ?_
    refine lV (yFieldAddr rfl F24_0) rfl rfl ?_
    refine lV (yLoad1 rfl O3 (cOwn 1 rfl rfl)) rfl rfl ?_
    refine lV (yAssign rfl) rfl rfl ?_
    refine lNil ?_
    refine kThen ?_
    refine kBlock ?_
    refine kLoopX (ι := Nat × Heap) (fun x => x.1 ≤ plW f ∧ φ (r * plW f + x.1) x.2) (fun x => [(4, i64 (f.n.1 + (x.1 : Nat)))]) [(0, _), (1, _), (5, _), (6, _), (7, _), (8, _), (9, _), (10, _), (3, _), (11, _), (12, _), (13, _), (14, _), (15, _), (16, _), (17, _), (18, _), (21, _), (22, _), (23, _), (24, _), (25, _), (26, _)] (fun x => []) (fun x => ([(nb, blk [.pointer (some ⟨nf, 0, none⟩)] 69), (nf, blk (fieldC y f U nm) 81)] ++ x.2)) [] (fun x => plW f - x.1) (0, C) (⟨Nat.zero_le _, hC⟩) rfl (.c (by dsimp only; rw [Int.natCast_zero, Int.add_zero]; rfl) .n) (.c rfl (.c rfl (.c rfl (.c rfl (.c rfl (.c rfl (.c rfl (.c rfl (.c rfl (.c rfl (.c rfl (.c rfl (.c rfl (.c rfl (.c rfl (.c rfl (.c rfl (.c rfl (.c rfl (.c rfl (.c rfl (.c rfl (.c rfl .n))))))))))))))))))))))) .r ?_
    rintro ⟨c, C⟩ ⟨hc, hC⟩
    dsimp only at hc hC ⊢
    refine kSeq ?_
    refine kSeq ?_
    refine kRegion rfl ?_
    refine lV (yMove rfl) rfl rfl ?_
    refine lV (yLoad1 rfl O69 (cOwn 0 rfl rfl)) rfl rfl ?_
    refine lV (yNilCheckP rfl) rfl rfl ?_
    refine lV (yFieldAddr rfl F81_0) rfl rfl ?_
    refine lV (yFieldAddr rfl F30_2) rfl rfl ?_
    refine lV (yFieldAddr rfl F24_1) rfl rfl ?_
    refine lV (yLoad1 rfl O3 (cOwn 1 rfl rfl)) rfl rfl ?_
    refine lV (yLeq rfl rfl) rfl rfl ?_
    refine split (t := 34) rfl (fun h34 => ?_) (fun h34 => ?_)
    · refine lNil ?_
      refine kThen ?_
      refine kIfT rfl ?_
      refine kSkip ?_
      refine kThen ?_
      refine kSeq ?_
      refine kBlock ?_
      refine kSeq ?_
      have hcw : c < plW f := by omega
      have hrw : r < plH f := by omega
      have hlt : r * plW f + c < plN f := by
        have h1 : (r + 1) * plW f ≤ plH f * plW f := Nat.mul_le_mul_right _ hrw
        rw [Nat.add_mul, Nat.one_mul] at h1
        show r * plW f + c < plH f * plW f
        omega
      refine kRegion rfl ?_
      refine lV (yMove rfl) rfl rfl ?_
      refine lV (yMove rfl) rfl rfl ?_
      refine lV (yMove rfl) rfl rfl ?_
      refine lV (yBuild (.c rfl (.c rfl .n)) (fun w => B87_0_1 w)) rfl rfl ?_
      refine same (t := 40) (u := plV' f (r * plW f + c)) rfl (by rw [plV', plP_at f hcw]) ?_
      refine lE rfl ?_
      refine eYieldE (φ := φ (r * plW f + c + 1)) (v := fun _ => .bool true) (L' := fun C' => [(nb, blk [.pointer (some ⟨nf, 0, none⟩)] 69), (nf, blk (fieldC y f U nm) 81)] ++ C') rfl (.c rfl .n) (fun w hw => hgo (r * plW f + c) C hlt hC w [] hw) fun C' hC' => ?_
      refine lV (yNot rfl) rfl rfl ?_
      refine lNil ?_
      refine kThen ?_
      refine kIfF rfl ?_
      refine kSkip ?_
      refine kInN ?_
      refine kThen ?_
      refine kRegion rfl ?_
      refine lV (yMove rfl) rfl rfl ?_
      refine lV (yAdd rfl rfl (by omega)) rfl rfl ?_
      refine lV (yAssign rfl) rfl rfl ?_
      refine lNil ?_
      exact kRoundX (c + 1, C') (⟨by dsimp only; omega, hC'⟩) (by dsimp only; omega) rfl (.c (by dsimp only; rw [show f.n.1 + ((c + 1 : Nat) : Int) = f.n.1 + (c : Nat) + 1 from by omega]; rfl) .n) (.c rfl (.c rfl (.c rfl (.c rfl (.c rfl (.c rfl (.c rfl (.c rfl (.c rfl (.c rfl (.c rfl (.c rfl (.c rfl (.c rfl (.c rfl (.c rfl (.c rfl (.c rfl (.c rfl (.c rfl (.c rfl (.c rfl (.c rfl .n))))))))))))))))))))))) .r
    · refine lNil ?_
      refine kThen ?_
      refine kIfF rfl ?_
      refine kExit ?_
      refine kThenX ?_
      refine kThenX ?_
      refine kInX ?_
      refine kInN ?_
      refine kThen ?_
      refine kRegion rfl ?_
      refine lV (yMove rfl) rfl rfl ?_
      refine lV (yAdd rfl rfl (by omega)) rfl rfl ?_
      refine lV (yAssign rfl) rfl rfl ?_
      refine lNil ?_
      exact kRoundX (r + 1, C) (⟨by dsimp only; omega, by dsimp only; rw [Nat.add_mul, Nat.one_mul, show r * plW f + plW f = r * plW f + c from by omega]; exact hC⟩) (by dsimp only; omega) rfl (.c (by dsimp only; rw [show f.e.1 + ((r + 1 : Nat) : Int) = f.e.1 + (r : Nat) + 1 from by omega]; rfl) .n) (.c rfl (.c rfl (.c rfl (.c rfl (.c rfl (.c rfl (.c rfl (.c rfl .n)))))))) .r
  · refine lNil ?_
    refine kThen ?_
    refine kIfF rfl ?_
    refine kExit ?_
    refine kThenX ?_
    refine kThenX ?_
    refine kInX ?_
    refine fEnd rfl .n ?_
    exact fun w' hw' => ⟨C, .inl ⟨Nat.le_refl _, by rw [show plN f = r * plW f from by rw [show r = plH f from by omega]]; exact hC⟩, rfl, hw'⟩
end
theorem first_some (nm nf : Nat) (es : PMap) (nb n3 n1 : Nat) (g : Own) (ks : List Nat) (w : World) (hk : InK w nf nm es y f) (hL : InL w nf n3 n1 f g ks) (hF : FldOk f) (hG : f.times = 1 ∨ 1 ≤ f.gap) (hb : w.heap[nb]? = some (blk [.pointer (some ⟨nf, 0, none⟩)] 69)) (he : ∃ s, s ≤ fullF f ∧ goodB f s = true) :
    Calls Try.prog 24 [.func (.func 45) [].toArray [.pointer (some ⟨nb, 0, none⟩)].toArray, .func (.func 49) [].toArray [.pointer (some ⟨n3, 0, none⟩), .pointer (some ⟨n1, 0, none⟩)].toArray].toArray w
      (RetX w (fun s => goodB f s = true ∧ SetsΦ (fullF f) (goodB f) (some s)) (fun s => u64 s) (fun _ => []) (fun _ => [])) :=
  (first_any y f nm nf es nb n3 n1 g ks w hk hL hF hG hb).mono fun e w' h => by
    rcases h with ⟨s, h1, h2, h3, h4⟩ | ⟨h1, _⟩
    · exact ⟨s, ⟨h1, h2⟩, h3, h4⟩
    · obtain ⟨s, h2, h3⟩ := he
      rw [h1 s h2] at h3; cases h3
theorem first_none (nm nf : Nat) (es : PMap) (nb n3 n1 : Nat) (g : Own) (ks : List Nat) (w : World) (hk : InK w nf nm es y f) (hL : InL w nf n3 n1 f g ks) (hF : FldOk f) (hG : f.times = 1 ∨ 1 ≤ f.gap) (hb : w.heap[nb]? = some (blk [.pointer (some ⟨nf, 0, none⟩)] 69)) (he : ¬ ∃ s, s ≤ fullF f ∧ goodB f s = true) :
    Calls Try.prog 24 [.func (.func 45) [].toArray [.pointer (some ⟨nb, 0, none⟩)].toArray, .func (.func 49) [].toArray [.pointer (some ⟨n3, 0, none⟩), .pointer (some ⟨n1, 0, none⟩)].toArray].toArray w (Pan w (kfailV 4)) :=
  (first_any y f nm nf es nb n3 n1 g ks w hk hL hF hG hb).mono fun e w' h => by
    rcases h with ⟨s, h1, h2, _⟩ | ⟨_, h2⟩
    · exact absurd ⟨s, h2.1, h1⟩ he
    · exact h2
set_option maxRecDepth 100000 in
set_option maxHeartbeats 4000000 in
theorem shortest_any (w : World) (hm : InF w y f) (hF : FldOk f) (hG : f.times = 1 ∨ 1 ≤ f.gap) : Calls Try.prog 8 [.agg (fldC y f).toArray].toArray w (Ret w (outI (shortE f))) := by
  have hfl := fullF_lt hF
  refine fEnter Try.func8 rfl Try.ntmps8 rfl ?_
  refine kSeq ?_
  refine kRegion rfl ?_
  refine lE rfl ?_
  refine eBoxA rfl fun n1 => ?_
  refine lV (yAssign rfl) rfl rfl ?_
  refine lE rfl ?_
  refine eAlloc Z33 fun n3 => ?_
  refine lNil ?_
  refine kThen ?_
  refine kSeq ?_
  refine kRegion rfl ?_
  refine lE rfl ?_
  refine eDefer rfl (.c rfl .n) ?_
  refine lNil ?_
  refine kThen ?_
  refine kSeq ?_
  refine kRegion rfl ?_
  refine lV (yLoadA (vs := [_, _, _, _, _, _, _, _, _, _]) rfl A30 (cOwn 1 rfl rfl)) rfl rfl ?_
  refine lE rfl ?_
  refine eCallO rfl (.c rfl .n) C23 (fun w hw => open_any y f w (hm.eff0 hw) hF) fun x hx => ?_
  obtain ⟨nf, nm, es⟩ := x
  dsimp only at hx ⊢
  refine lV (yAssign rfl) rfl rfl ?_
  refine lNil ?_
  refine kThen ?_
  refine kSeq ?_
  by_cases he : ∃ s, s ≤ fullF f ∧ goodB f s = true
  · refine kRegion rfl ?_
    refine lV (yMove rfl) rfl rfl ?_
    refine lE rfl ?_
    refine eCallO rfl (.c rfl .n) C25 (fun w hw => ksets_any nf w) fun nb _ => ?_
    refine lV (yMove rfl) rfl rfl ?_
    refine lE rfl ?_
    refine eCallO rfl (.c rfl .n) C26 (fun w hw => isList_any y f nm nf es w ⟨hw.blkAt 2 rfl, hw.blkAt 3 rfl, hx, hm.eff0 hw⟩ hF) fun x hx2 => ?_
    obtain ⟨⟨g, ks⟩, l3, l1⟩ := x
    dsimp only at hx2 ⊢
    refine lE rfl ?_
    refine eCallX rfl (.c rfl (.c rfl .n)) C24 (fun w hw => first_some y f nm nf es nb l3 l1 g ks w ⟨hw.blkAt 2 rfl, hw.blkAt 3 rfl, hx, hm.eff0 hw⟩ ⟨hw.blkAt 6 rfl, hw.blkAt 5 rfl, OS.rowsE (f := rowU) 0 hx2.1 hw (.k rfl (.k rfl (.k rfl (.k rfl (.k rfl (.k rfl (.k rfl .r))))))), hx2.2.2, hx2.2.1⟩ hF hG (hw.blkAt 4 rfl) he) fun s hs => ?_
    have hsl := hs.2.1
    refine lV (yConvInt rfl U71 U3 (conv_ok (by omega))) rfl rfl ?_
    refine lV (yAssign rfl) rfl rfl ?_
    refine lE rfl ?_
    refine eStoreL 0 rfl rfl rfl rfl K33 rfl (rfl) ?_
    refine lNil ?_
    refine kThen ?_
    refine kRet ?_
    refine kfRetE rfl (.t rfl (.c1 rfl O33 (cOwn 0 rfl rfl) .n)) (endRet ?_)
    simp only [packV, shortE, SetsΦ.some_eq hs.2 hs.1]
  · refine kRegion rfl ?_
    refine lV (yMove rfl) rfl rfl ?_
    refine lE rfl ?_
    refine eCallO rfl (.c rfl .n) C25 (fun w hw => ksets_any nf w) fun nb _ => ?_
    refine lV (yMove rfl) rfl rfl ?_
    refine lE rfl ?_
    refine eCallO rfl (.c rfl .n) C26 (fun w hw => isList_any y f nm nf es w ⟨hw.blkAt 2 rfl, hw.blkAt 3 rfl, hx, hm.eff0 hw⟩ hF) fun x hx2 => ?_
    obtain ⟨⟨g, ks⟩, l3, l1⟩ := x
    dsimp only at hx2 ⊢
    refine lE rfl ?_
    refine eCallP rfl (.c rfl (.c rfl .n)) C24 (fun w hw => first_none y f nm nf es nb l3 l1 g ks w ⟨hw.blkAt 2 rfl, hw.blkAt 3 rfl, hx, hm.eff0 hw⟩ ⟨hw.blkAt 6 rfl, hw.blkAt 5 rfl, OS.rowsE (f := rowU) 0 hx2.1 hw (.k rfl (.k rfl (.k rfl (.k rfl (.k rfl (.k rfl (.k rfl .r))))))), hx2.2.2, hx2.2.1⟩ hF hG (hw.blkAt 4 rfl) he) ?_
    refine kThenP ?_
    refine kfPanE 0 rfl rfl (.t rfl (.c1 rfl O33 (cOwn 0 rfl rfl) .n)) (endRet ?_)
    have hn : bestS (goodB f) (fullF f + 1) = none := SetsΦ.none_eq (F := fullF f) fun s hs => by cases hg : goodB f s with
      | false => rfl
      | true => exact absurd ⟨s, hs, hg⟩ he
    simp only [packV, shortE, hn]
end
end Go.Proofs.Ytdpeifbejeflhaa
