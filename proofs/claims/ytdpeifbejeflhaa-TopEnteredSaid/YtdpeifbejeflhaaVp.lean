/-
  Walks: all ways of a shelf.
-/
import Derived.Test.YtdpeifbejeflhaaVo
import Derived.Test.YtdpeifbejeflhaaEngP
namespace Go.Proofs.Ytdpeifbejeflhaa
open ZW

/-- What is read of a shelf that is looked at. -/
def RdS (nS : Nat) (ys yn : Option Addr × Nat) (s : Shl) (w : World) : Prop := ∀ j, j < (shlC ys yn s).length → w.cell? ⟨nS, 0 + j, none⟩ = (shlC ys yn s)[j]?
theorem RdS.of {nS : Nat} {ys yn : Option Addr × Nat} {s : Shl} {a b c : Value} {w : World} (h : w.heap[nS]? = some (shBox ys yn s a b c)) : RdS nS ys yn s w := fun j hj => by
  rw [cell_blk h, Nat.zero_add, List.getElem?_append_left hj]
theorem cRd {C : World → Prop} {nS o : Nat} {ys yn : Option Addr × Nat} {s : Shl} {vs : List Value} (h : ∀ w, C w → RdS nS ys yn s w) (hs : sub (shlC ys yn s) o vs.length = some vs) : Cells C nS o vs := fun w hw j hj => by
  obtain ⟨_, h2⟩ := sub_spec _ _ _ _ hs
  have h3 := h2 j hj
  have hlt : o + j < (shlC ys yn s).length := by
    rcases Nat.lt_or_ge (o + j) (shlC ys yn s).length with hl | hl
    · exact hl
    · rw [List.getElem?_eq_none hl, List.getElem?_eq_getElem hj] at h3; cases h3
  have := h w hw (o + j) hlt
  rw [Nat.zero_add] at this
  rw [this]; exact h3
section
variable (ys yn : Option Addr × Nat) (s : Shl) (nS : Nat)
set_option maxRecDepth 100000 in
theorem tall_any (w : World) : Calls Try.prog 37 [.pointer (some ⟨nS, 0, none⟩)].toArray w
    (RetX w (fun _ : Nat => True) (fun nb => .func (.func 57) [].toArray [.pointer (some ⟨nb, 0, none⟩)].toArray) (fun _ => []) (fun nb => [(nb, blk [.pointer (some ⟨nS, 0, none⟩)] 51)])) := by
  refine fEnter Try.func37 rfl Try.ntmps37 rfl ?_
  refine kSeq ?_
  refine kRegion rfl ?_
  refine lE rfl ?_
  refine eBox1 rfl rfl fun n1 => ?_
  refine lV (yAssign rfl) rfl rfl ?_
  refine lNil ?_
  refine kThen ?_
  refine kSeq ?_
  refine kRegion rfl ?_
  refine lV (yMakeFunc .n (.c rfl .n)) rfl rfl ?_
  refine lV (yAssign rfl) rfl rfl ?_
  refine lNil ?_
  refine kThen ?_
  refine kRet ?_
  refine fRet rfl (.t rfl .n) ?_
  exact endX n1 trivial rfl rfl .r
abbrev naH (na : Nat) : Heap := [(na, blk [.pointer (some ⟨nS, 0, none⟩)] 51)]
abbrev onH (nz ny nf na l : Nat) (z : Way) : Heap := [(nz, blk (wC z) 61), (ny, blk [.func (.yield l) #[] #[]] 96), (nf, blk [.func (.func 58) [].toArray [.pointer (some ⟨na, 0, none⟩), .pointer (some ⟨ny, 0, none⟩), .pointer (some ⟨nz, 0, none⟩), .pointer (some ⟨nf, 0, none⟩)].toArray] 115)]
theorem brW_neg {s : Shl} {r n : Nat} {w z : Way} {i : Nat} (h : ¬ okW s w z n i) : brW s r n w z i = [] := if_neg h
theorem brW_pos {s : Shl} {r n : Nat} {w z : Way} {i : Nat} (h : okW s w z n i) : brW s r n w z i = waysW s r (n + 1) (wUp w n (i : Nat)) (wUp z i (max (oldZ z n i) (s.zs.getD n 0))) := if_pos h
set_option maxRecDepth 100000 in
set_option maxHeartbeats 4000000 in
theorem on_any (W : World) (hm : InSh W ys yn s) (hS : ShlOk s) (na ny nz nf l : Nat) (φ : Nat → Heap → Prop) (vL : List Way)
    (rd : ∀ i C, φ i C → ∀ w L, Eff W [] (L ++ (naH nS na ++ C)) w → RdS nS ys yn s w)
    (hgo : ∀ i C, i < vL.length → φ i C → YT Try.prog l (wV (vL.getD i w0)) W (naH nS na) C true (φ (i + 1))) :
    ∀ (r n : Nat) (x z : Way) (A B : List Way) (C Z : Heap) (w : World), ((n + r : Nat) : Int) = s.n → (∀ j, n ≤ j → z j = 0) → φ A.length C → vL = A ++ (waysW s r n x z ++ B) → Eff W [] (onH nz ny nf na l z ++ (naH nS na ++ (C ++ Z))) w →
    Calls Try.prog 58 [wV x, i64 (n : Nat), .pointer (some ⟨na, 0, none⟩), .pointer (some ⟨ny, 0, none⟩), .pointer (some ⟨nz, 0, none⟩), .pointer (some ⟨nf, 0, none⟩)].toArray w
      (RetE W [] (fun C' => φ (A.length + (waysW s r n x z).length) C') (fun _ => .bool true) (fun C' => onH nz ny nf na l z ++ (naH nS na ++ (C' ++ Z)))) := by
  have hn8 := hS.n
  have hzl := hS.l
  intro r
  induction r with
  | zero =>
    intro n x z A B C Z w hn hz hC hv hE
    have hpl := plsW_le x n
    have hy1 : (s.p.1 ≤ (plsW x n : Int) ∧ (plsW x n : Int) ≤ s.p.2) → YT Try.prog l (wV x) W (naH nS na) C true (φ (A.length + 1)) := fun hin => by
      have hw1 : waysW s 0 n x z = [x] := if_pos hin
      rw [hw1] at hv
      have := hgo A.length C (by rw [hv]; simp) hC
      rw [hv] at this
      simpa using this
    refine fEnterE hE Try.func58 rfl Try.ntmps58 rfl ?_
    refine kSeq ?_
    refine kRegion rfl ?_
    refine lE rfl ?_
    refine eBoxA rfl fun n6 => ?_
    refine lV (yAssign rfl) rfl rfl ?_
    refine lNil ?_
    refine kThen ?_
    refine kSeq ?_
    refine kSeq ?_
    refine kRegion rfl ?_
    refine lV (yMove rfl) rfl rfl ?_
    refine lV (yLoad1 rfl O51 (cOwn 4 rfl rfl)) rfl rfl ?_
    refine lV (yNilCheckP rfl) rfl rfl ?_
    refine lV (yFieldAddr rfl F67_0) rfl rfl ?_
    refine lV (yFieldAddr rfl F27_0) rfl rfl ?_
    refine lV (yLoad1 rfl O3 (cRd (fun w hw => rd _ _ hC w _ (hw.perm (permO [_, _, _, _] (naH nS na) C Z))) rfl)) rfl rfl ?_
    refine lV (yEql rfl rfl) rfl rfl ?_
    refine known (t := 19) rfl (by omega) ?_
    refine lNil ?_
    refine kThen ?_
    refine kIfT rfl ?_
    refine kSeq ?_
    by_cases hin : s.p.1 ≤ (plsW x n : Int) ∧ (plsW x n : Int) ≤ s.p.2
    · refine kDrawE [(0, some [0]), (2, some []), (3, some [4]), (9, some [4]), (15, some []), (18, none), (19, none)] [(8, RdS nS ys yn s), (14, RdS nS ys yn s)] [0, 1, 2, 3, 4, 5, 6, 7, 8, 9, 10, 11, 12, 13, 14, 15, 16, 17, 18, 19] 3 hMix (by kernel_rfl) ?_
      refine .run rfl (yLoadA (vs := [_, _, _, _, _, _, _, _]) rfl A61 (cOwn 0 rfl rfl)) rfl rfl ?_
      refine .run rfl (yMove rfl) rfl rfl ?_
      refine .run rfl (yCall rfl (.c rfl (.c rfl .n)) C59 (fun w hw => plates_any x n (by omega) w)) rfl rfl ?_
      refine .run rfl (yLoad1 rfl O51 (cOwn 0 rfl rfl)) rfl rfl ?_
      refine .run rfl (yNilCheckP rfl) rfl rfl ?_
      refine .run rfl (yFieldAddr rfl F67_0) rfl rfl ?_
      refine .run rfl (yFieldAddr rfl F27_2) rfl rfl ?_
      refine .run rfl (yFieldAddr rfl F24_0) rfl rfl ?_
      refine .run rfl (yLoad1 rfl O3 (cRd (fun w hw => hw) rfl)) rfl rfl ?_
      refine .run rfl (yLoad1 rfl O51 (cOwn 0 rfl rfl)) rfl rfl ?_
      refine .run rfl (yNilCheckP rfl) rfl rfl ?_
      refine .run rfl (yFieldAddr rfl F67_0) rfl rfl ?_
      refine .run rfl (yFieldAddr rfl F27_2) rfl rfl ?_
      refine .run rfl (yFieldAddr rfl F24_1) rfl rfl ?_
      refine .run rfl (yLoad1 rfl O3 (cRd (fun w hw => hw) rfl)) rfl rfl ?_
      refine .run rfl (yvIs (c := true) (yCall rfl (.c rfl (.c rfl (.c rfl .n))) C33 (fun w hw => twithin_any _ _ _ w)) (decide_eq_true hin)) rfl rfl ?_
      refine .run rfl (yNot rfl) rfl rfl ?_
      refine .run rfl (yMove rfl) rfl rfl ?_
      refine .runG rfl (yLoad1 rfl O96 (cOwn 2 rfl rfl)) rfl rfl rfl rfl ?_
      refine .runG rfl (yLoadA (vs := [_, _, _, _, _, _, _, _]) rfl A61 (cOwn 0 rfl rfl)) rfl rfl rfl rfl ?_
      refine .done ?_
      refine effStep 20 [] (by kernel_rfl) closedSt (hLeft [0, 2, 3, 8, 9, 14, 15, 18, 19] (by kernel_rfl) (.c (fun _ _ hs => hs.ef.sub (.h rfl .n)) (.c (fun _ _ hs => hs.ef.sub .n) (.c (fun _ _ hs => hs.ef.sub (.k rfl (.k rfl (.k rfl (.k rfl (.h rfl .n)))))) (.c (fun _ _ hs => rd _ _ hC _ _ (hs.ef.perm (permO [_, _, _, _] (naH nS na) C Z))) (.c (fun _ _ hs => hs.ef.sub (.k rfl (.k rfl (.k rfl (.k rfl (.h rfl .n)))))) (.c (fun _ _ hs => rd _ _ hC _ _ (hs.ef.perm (permO [_, _, _, _] (naH nS na) C Z))) (.c (fun _ _ hs => hs.ef.sub .n) (.c (fun _ _ hs => hs.ef) (.c (fun _ _ hs => hs.ef) .n)))))))))) ?_
      refine .c ?_ .n
      refine effOne rfl (gYes rfl rfl rfl (fYieldE (φ := φ (A.length + 1)) (v := fun _ => .bool true) (L' := fun C' => [_, _, _, _] ++ (naH nS na ++ (C' ++ Z))) rfl (.c rfl .n) (fun w hw => (hy1 hin).at [_, _, _, _] Z w hw))) ?_
      refine effStep 21 [] (by kernel_rfl) (closedEx fun C' => closedSt) (hLeft [0, 3, 9] (by kernel_rfl) (.c (fun _ _ ⟨C', hs⟩ => hs.ef.sub (.h rfl .n)) (.c (fun _ _ ⟨C', hs⟩ => hs.ef.sub (.k rfl (.k rfl (.k rfl (.k rfl (.h rfl .n)))))) (.c (fun _ _ ⟨C', hs⟩ => hs.ef.sub (.k rfl (.k rfl (.k rfl (.k rfl (.h rfl .n)))))) .n)))) ?_
      refine .c ?_ .n
      refine effOne rfl (opEx fun C' => (gNone rfl (fV (yPickF rfl rfl) rfl))) ?_
      refine effStep 22 [] (by kernel_rfl) (closedEx fun C' => closedSt) (hLeft [0, 3, 9] (by kernel_rfl) (.c (fun _ _ ⟨C', hs⟩ => hs.ef.sub (.h rfl .n)) (.c (fun _ _ ⟨C', hs⟩ => hs.ef.sub (.k rfl (.k rfl (.k rfl (.k rfl (.h rfl .n)))))) (.c (fun _ _ ⟨C', hs⟩ => hs.ef.sub (.k rfl (.k rfl (.k rfl (.k rfl (.h rfl .n)))))) .n)))) ?_
      refine .c ?_ .n
      refine effOne rfl (opEx fun C' => (gNone rfl (fV (yAssign rfl) rfl))) ?_
      refine effDone (closedEx fun C' => closedSt) (hLeft [] (by kernel_rfl) .n) (by kernel_rfl) ?_
      refine trEx fun C' => ?_
      refine kThen ?_
      refine kRet ?_
      refine kThenR ?_
      refine fRet rfl (.t rfl .n) ?_
      exact fun w' hw' => ⟨C'.1, by rw [show (waysW s 0 n x z).length = 1 from by rw [show waysW s 0 n x z = [x] from if_pos hin]; rfl]; exact C'.2, rfl, hw'.sub (.k rfl .r)⟩
    · refine kDrawE [(0, some [0]), (2, some []), (3, some [4]), (9, some [4]), (15, some [])] [(8, RdS nS ys yn s), (14, RdS nS ys yn s)] [0, 1, 2, 3, 4, 5, 6, 7, 8, 9, 10, 11, 12, 13, 14, 15, 16, 17, 18, 19] 3 hMix (by kernel_rfl) ?_
      refine .run rfl (yLoadA (vs := [_, _, _, _, _, _, _, _]) rfl A61 (cOwn 0 rfl rfl)) rfl rfl ?_
      refine .run rfl (yMove rfl) rfl rfl ?_
      refine .run rfl (yCall rfl (.c rfl (.c rfl .n)) C59 (fun w hw => plates_any x n (by omega) w)) rfl rfl ?_
      refine .run rfl (yLoad1 rfl O51 (cOwn 0 rfl rfl)) rfl rfl ?_
      refine .run rfl (yNilCheckP rfl) rfl rfl ?_
      refine .run rfl (yFieldAddr rfl F67_0) rfl rfl ?_
      refine .run rfl (yFieldAddr rfl F27_2) rfl rfl ?_
      refine .run rfl (yFieldAddr rfl F24_0) rfl rfl ?_
      refine .run rfl (yLoad1 rfl O3 (cRd (fun w hw => hw) rfl)) rfl rfl ?_
      refine .run rfl (yLoad1 rfl O51 (cOwn 0 rfl rfl)) rfl rfl ?_
      refine .run rfl (yNilCheckP rfl) rfl rfl ?_
      refine .run rfl (yFieldAddr rfl F67_0) rfl rfl ?_
      refine .run rfl (yFieldAddr rfl F27_2) rfl rfl ?_
      refine .run rfl (yFieldAddr rfl F24_1) rfl rfl ?_
      refine .run rfl (yLoad1 rfl O3 (cRd (fun w hw => hw) rfl)) rfl rfl ?_
      refine .run rfl (yvIs (c := false) (yCall rfl (.c rfl (.c rfl (.c rfl .n))) C33 (fun w hw => twithin_any _ _ _ w)) (decide_eq_false hin)) rfl rfl ?_
      refine .run rfl (yNot rfl) rfl rfl ?_
      refine .run rfl (yMove rfl) rfl rfl ?_
      refine .skip rfl rfl rfl rfl rfl rfl ?_
      refine .skip rfl rfl rfl rfl rfl rfl ?_
      refine .done ?_
      refine effStep 20 [] (by kernel_rfl) closedSt (hLeft [0, 2, 3, 8, 9, 14, 15] (by kernel_rfl) (.c (fun _ _ hs => hs.ef.sub (.h rfl .n)) (.c (fun _ _ hs => hs.ef.sub .n) (.c (fun _ _ hs => hs.ef.sub (.k rfl (.k rfl (.k rfl (.k rfl (.h rfl .n)))))) (.c (fun _ _ hs => rd _ _ hC _ _ (hs.ef.perm (permO [_, _, _, _] (naH nS na) C Z))) (.c (fun _ _ hs => hs.ef.sub (.k rfl (.k rfl (.k rfl (.k rfl (.h rfl .n)))))) (.c (fun _ _ hs => rd _ _ hC _ _ (hs.ef.perm (permO [_, _, _, _] (naH nS na) C Z))) (.c (fun _ _ hs => hs.ef.sub .n) .n)))))))) ?_
      refine .c ?_ .n
      refine effOne rfl (gNo rfl rfl rfl rfl rfl) ?_
      refine effStep 21 [] (by kernel_rfl) closedSt (hLeft [0, 3, 9] (by kernel_rfl) (.c (fun _ _ hs => hs.ef.sub (.h rfl .n)) (.c (fun _ _ hs => hs.ef.sub (.k rfl (.k rfl (.k rfl (.k rfl (.h rfl .n)))))) (.c (fun _ _ hs => hs.ef.sub (.k rfl (.k rfl (.k rfl (.k rfl (.h rfl .n)))))) .n)))) ?_
      refine .c ?_ .n
      refine effOne rfl (gNone rfl (fV (yPickT rfl rfl) rfl)) ?_
      refine effStep 22 [] (by kernel_rfl) closedSt (hLeft [0, 3, 9] (by kernel_rfl) (.c (fun _ _ hs => hs.ef.sub (.h rfl .n)) (.c (fun _ _ hs => hs.ef.sub (.k rfl (.k rfl (.k rfl (.k rfl (.h rfl .n)))))) (.c (fun _ _ hs => hs.ef.sub (.k rfl (.k rfl (.k rfl (.k rfl (.h rfl .n)))))) .n)))) ?_
      refine .c ?_ .n
      refine effOne rfl (gNone rfl (fV (yAssign rfl) rfl)) ?_
      refine effDone closedSt (hLeft [] (by kernel_rfl) .n) (by kernel_rfl) ?_
      refine kThen ?_
      refine kRet ?_
      refine kThenR ?_
      refine fRet rfl (.t rfl .n) ?_
      exact fun w' hw' => ⟨C, by rw [show (waysW s 0 n x z).length = 0 from by rw [show waysW s 0 n x z = [] from if_neg hin]; rfl]; exact hC, rfl, hw'.sub (.k rfl .r)⟩
  | succ r ih =>
    intro n x z A B C Z w hn hz hC hv hE
    refine fEnterE hE Try.func58 rfl Try.ntmps58 rfl ?_
    refine kSeq ?_
    refine kRegion rfl ?_
    refine lE rfl ?_
    refine eBoxA rfl fun n6 => ?_
    refine lV (yAssign rfl) rfl rfl ?_
    refine lNil ?_
    refine kThen ?_
    refine kSeq ?_
    refine kSeq ?_
    refine kRegion rfl ?_
    refine lV (yMove rfl) rfl rfl ?_
    refine lV (yLoad1 rfl O51 (cOwn 4 rfl rfl)) rfl rfl ?_
    refine lV (yNilCheckP rfl) rfl rfl ?_
    refine lV (yFieldAddr rfl F67_0) rfl rfl ?_
    refine lV (yFieldAddr rfl F27_0) rfl rfl ?_
    refine lV (yLoad1 rfl O3 (cRd (fun w hw => rd _ _ hC w _ (hw.perm (permO [_, _, _, _] (naH nS na) C Z))) rfl)) rfl rfl ?_
    refine lV (yEql rfl rfl) rfl rfl ?_
    refine knownN (t := 19) rfl (by omega) ?_
    refine lNil ?_
    refine kThen ?_
    refine kIfF rfl ?_
    refine kSkip ?_
    refine kThen ?_
    refine kSeq ?_
    refine kSeq ?_
    refine kRegion rfl ?_
    refine lV (yMove rfl) rfl rfl ?_
    refine lV (yAdd rfl rfl (by omega)) rfl rfl ?_
    refine lV (yMove rfl) rfl rfl ?_
    refine lNil ?_
    refine kThen ?_
    refine kBlock ?_
    refine kLoopX (ι := Nat × Heap × Way) (fun q => q.1 ≤ n + 1 ∧ φ (A.length + (ptW s r n x z q.1).length) q.2.1 ∧ ∀ v, wUp q.2.2 n v = wUp x n v) (fun q => [(44, i64 (q.1 : Nat))]) [(0, _), (1, _), (2, _), (3, _), (4, _), (5, _), (6, _), (13, _), (14, _), (15, _), (16, _), (17, _), (18, _), (19, _), (42, _), (43, _)] (fun q => []) (fun q => ([(n6, blk (wC q.2.2) 61), (nz, blk (wC z) 61), (ny, blk [.func (.yield l) #[] #[]] 96), (nf, blk [.func (.func 58) [].toArray [.pointer (some ⟨na, 0, none⟩), .pointer (some ⟨ny, 0, none⟩), .pointer (some ⟨nz, 0, none⟩), .pointer (some ⟨nf, 0, none⟩)].toArray] 115), (na, blk [.pointer (some ⟨nS, 0, none⟩)] 51)] ++ (q.2.1 ++ Z))) [] (fun q => n + 1 - q.1) (0, C, x) (⟨Nat.zero_le _, by simpa [ptW] using hC, fun _ => rfl⟩) rfl (.c rfl .n) (.c rfl (.c rfl (.c rfl (.c rfl (.c rfl (.c rfl (.c rfl (.c rfl (.c rfl (.c rfl (.c rfl (.c rfl (.c rfl (.c rfl (.c rfl (.c rfl .n)))))))))))))))) .r ?_
    rintro ⟨i, C, xq⟩ ⟨hi, hC, hxq⟩
    dsimp only at hi hC hxq ⊢
    have hxi : i < n → xq i = x i := fun h => by
      have := congrFun (hxq 0) i
      rwa [wUp_ne _ _ (by omega), wUp_ne _ _ (by omega)] at this
    have hzi : i = n → z i = 0 := fun h => hz i (by omega)
    have hold : oldZ z n i = z i := by
      unfold oldZ; split
      · rename_i h; rw [hzi h]
      · rfl
    obtain ⟨own, hown⟩ : ∃ own, own = s.zs.getD n 0 := ⟨_, rfl⟩
    refine kSeq ?_
    refine kRegion rfl ?_
    refine lV (yLss rfl rfl) rfl rfl ?_
    refine lNil ?_
    refine kThen ?_
    refine kSeq ?_
    refine split (t := 45) rfl (fun h45 => ?_) (fun h45 => ?_)
    · refine kIfT rfl ?_
      refine kSkip ?_
      refine kThen ?_
      refine kSeq ?_
      refine kBlock ?_
      refine kSeq ?_
      refine kRegion rfl ?_
      refine lV (yMove rfl) rfl rfl ?_
      refine lV (yAssign rfl) rfl rfl ?_
      refine lNil ?_
      refine kThen ?_
      refine kSeq ?_
      refine kDrawE [(2, none), (3, none), (7, none), (9, none), (10, none)] [] [0, 1, 2, 3, 4, 5, 6, 7, 8, 9, 10, 11, 12] 0 hMix (by kernel_rfl) ?_
      refine .run rfl (yMove rfl) rfl rfl ?_
      refine .run rfl (yIndexN rfl rfl R61 ((by omega))) rfl rfl ?_
      refine .run rfl (yLoad1 rfl O3 (cOwn 1 rfl (wSub z (by omega)))) rfl rfl ?_
      refine .run rfl (yLoad1 rfl O51 (cOwn 4 rfl rfl)) rfl rfl ?_
      refine .run rfl (yNilCheckP rfl) rfl rfl ?_
      refine .run rfl (yFieldAddr rfl F67_0) rfl rfl ?_
      refine .run rfl (yFieldAddr rfl F27_1) rfl rfl ?_
      refine .run rfl (yLoad1 rfl O22 (cRd (fun w hw => rd _ _ hC w _ (hw.perm (permO [_, _, _, _] (naH nS na) C Z))) rfl)) rfl rfl ?_
      refine .run rfl (yMove rfl) rfl rfl ?_
      refine .run rfl (yIndexS  rfl rfl S22 (hm.z.r) ((by omega))) rfl rfl ?_
      refine .run rfl (yvSame (u := i64 own) (yLoad1 rfl O3 (cSl0 (hm.z.r) ((by omega)) rfl)) (by rw [hown])) rfl rfl ?_
      refine .run rfl (yAssign rfl) rfl rfl ?_
      refine .run rfl (yAssign rfl) rfl rfl ?_
      refine .done ?_
      refine effDone closedSt (hLeft [2, 3, 7, 9, 10] (by kernel_rfl) (.c (fun _ _ hs => hs.ef) (.c (fun _ _ hs => hs.ef) (.c (fun _ _ hs => hs.ef) (.c (fun _ _ hs => hs.ef) (.c (fun _ _ hs => hs.ef) .n)))))) (by kernel_rfl) ?_
      refine kThen ?_
      refine kSeq ?_
      refine kSeq ?_
      refine kRegion rfl ?_
      refine lV (yMove rfl) rfl rfl ?_
      refine lV (yMove rfl) rfl rfl ?_
      refine lV (yEql rfl rfl) rfl rfl ?_
      refine lNil ?_
      refine kThen ?_
      refine split (t := 60) rfl (fun h60 => ?_) (fun h60 => ?_)
      · refine kIfT rfl ?_
        refine kRegion rfl ?_
        refine lV (yAssign rfl) rfl rfl ?_
        refine lNil ?_
        refine kThen ?_
        refine kSeq ?_
        refine kSeq ?_
        refine kRegion rfl ?_
        refine lV (yMove rfl) rfl rfl ?_
        refine lV (yMove rfl) rfl rfl ?_
        refine lV (yLss rfl rfl) rfl rfl ?_
        refine lV (yMove rfl) rfl rfl ?_
        refine split (t := 64) rfl (fun h64 => ?_) (fun h64 => ?_)
        · refine lGY rfl rfl rfl (oV (yMove rfl) rfl ?_)
          refine lGY rfl rfl rfl (oV (yIndexN rfl rfl R61 ((by omega))) rfl ?_)
          refine lGY rfl rfl rfl (oV (yLoad1 rfl O3 (cOwn 0 rfl (wSub xq (by omega)))) rfl ?_)
          refine lGY rfl rfl rfl (oV (yMove rfl) rfl ?_)
          refine lGY rfl rfl rfl (oV (yNeq rfl rfl) rfl ?_)
          refine lV (yPickT rfl rfl) rfl rfl ?_
          refine lV (yMove rfl) rfl rfl ?_
          refine split (t := 71) rfl (fun h71 => ?_) (fun h71 => ?_)
          · refine lGN rfl rfl rfl rfl rfl ?_
            refine lGN rfl rfl rfl rfl rfl ?_
            refine lGN rfl rfl rfl rfl rfl ?_
            refine lGU rfl rfl rfl rfl ?_
            refine lGU rfl rfl rfl rfl ?_
            refine lGN rfl rfl rfl rfl rfl ?_
            refine lGN rfl rfl rfl rfl rfl ?_
            refine lGU rfl rfl rfl rfl ?_
            refine lGU rfl rfl rfl rfl ?_
            refine lGU rfl rfl rfl rfl ?_
            refine lGN rfl rfl rfl rfl rfl ?_
            refine lV (yPickT rfl rfl) rfl rfl ?_
            refine lNil ?_
            refine kThen ?_
            refine kIfT rfl ?_
            refine kExit ?_
            refine kThenX ?_
            refine kInX ?_
            refine kThen ?_
            have hround : φ (A.length + (ptW s r n x z (i + 1)).length) C := by
              first
                | exact hC
                | (rw [ptW_succ, brW_neg (by unfold okW; rw [hold, ← hown]; omega), List.append_nil]; exact hC)
            refine kRegion rfl ?_
            refine lV (yAdd rfl rfl (by omega)) rfl rfl ?_
            refine lV (yMove rfl) rfl rfl ?_
            refine lNil ?_
            exact kRoundX (i + 1, C, xq) (⟨by dsimp only; omega, hround, hxq⟩) (by dsimp only; omega) rfl (.c rfl .n) (.c rfl (.c rfl (.c rfl (.c rfl (.c rfl (.c rfl (.c rfl (.c rfl (.c rfl (.c rfl (.c rfl (.c rfl (.c rfl (.c rfl (.c rfl (.c rfl .n)))))))))))))))) .r
          · refine lGY rfl rfl rfl (oV (yMove rfl) rfl ?_)
            refine lGY rfl rfl rfl (oV (yNeq rfl rfl) rfl ?_)
            refine lGY rfl rfl rfl (oV (yMove rfl) rfl ?_)
            refine split (t := 74) rfl (fun h74 => ?_) (fun h74 => ?_)
            · refine lGY rfl rfl rfl (oV (yMove rfl) rfl ?_)
              refine lGY rfl rfl rfl (oV (yNeq rfl rfl) rfl ?_)
              refine lGY rfl rfl rfl (oV (yPickT rfl rfl) rfl ?_)
              refine lGY rfl rfl rfl (oV (yMove rfl) rfl ?_)
              refine split (t := 78) rfl (fun h78 => ?_) (fun h78 => ?_)
              · refine lGY rfl rfl rfl (oV (yMove rfl) rfl ?_)
                refine lGY rfl rfl rfl (oV (yMove rfl) rfl ?_)
                refine lGY rfl rfl rfl (oV (yNeq rfl rfl) rfl ?_)
                refine lGY rfl rfl rfl (oV (yPickT rfl rfl) rfl ?_)
                refine lV (yPickF rfl rfl) rfl rfl ?_
                refine lNil ?_
                refine kThen ?_
                refine split (t := 83) rfl (fun h83 => ?_) (fun h83 => ?_)
                · refine kIfT rfl ?_
                  refine kExit ?_
                  refine kThenX ?_
                  refine kInX ?_
                  refine kThen ?_
                  have hround : φ (A.length + (ptW s r n x z (i + 1)).length) C := by
                    first
                      | exact hC
                      | (rw [ptW_succ, brW_neg (by unfold okW; rw [hold, ← hown]; omega), List.append_nil]; exact hC)
                  refine kRegion rfl ?_
                  refine lV (yAdd rfl rfl (by omega)) rfl rfl ?_
                  refine lV (yMove rfl) rfl rfl ?_
                  refine lNil ?_
                  exact kRoundX (i + 1, C, xq) (⟨by dsimp only; omega, hround, hxq⟩) (by dsimp only; omega) rfl (.c rfl .n) (.c rfl (.c rfl (.c rfl (.c rfl (.c rfl (.c rfl (.c rfl (.c rfl (.c rfl (.c rfl (.c rfl (.c rfl (.c rfl (.c rfl (.c rfl (.c rfl .n)))))))))))))))) .r
                · refine kIfF rfl ?_
                  refine kSkip ?_
                  refine kThen ?_
                  refine kSeq ?_
                  have hok : okW s x z n i := by
                    unfold okW
                    rw [hold, ← hown]
                    constructor <;> omega
                  refine kRegion rfl ?_
                  refine lV (yMove rfl) rfl rfl ?_
                  refine lV (yMove rfl) rfl rfl ?_
                  refine lV (yMove rfl) rfl rfl ?_
                  refine lV (yMove rfl) rfl rfl ?_
                  refine lV (yMove rfl) rfl rfl ?_
                  refine lV (yMax rfl rfl) rfl rfl ?_
                  refine same (t := 89) (u := i64 (max (oldZ z n i) (s.zs.getD n 0))) rfl (by first | (rw [hold, hown]; done) | (rw [hold, hown, hzi (by omega)])) ?_
                  refine lV (yIndexN rfl rfl R61 ((by omega))) rfl rfl ?_
                  refine lE rfl ?_
                  refine eStoreL 0 rfl rfl rfl rfl K3 rfl (wFits xq (by omega)) ?_
                  refine lV (yIndexN rfl rfl R61 ((by omega))) rfl rfl ?_
                  refine lE rfl ?_
                  refine eStoreL 1 rfl rfl rfl rfl K3 rfl (wFits z (by omega)) ?_
                  refine lNil ?_
                  rw [wWr xq (by omega), wWr z (by omega), hxq]
                  refine kThen ?_
                  refine kSeq ?_
                  refine kRegion rfl ?_
                  refine lV (yLoad1 rfl O115 (cOwn 3 rfl rfl)) rfl rfl ?_
                  refine lV (yLoadA (vs := [_, _, _, _, _, _, _, _]) rfl A61 (cOwn 0 rfl rfl)) rfl rfl ?_
                  refine lV (yMove rfl) rfl rfl ?_
                  refine lV (yAdd rfl rfl (by omega)) rfl rfl ?_
                  refine lE rfl ?_
                  skip
                  obtain ⟨B1, hB1⟩ := ptW_pre s r n x z (show i + 1 ≤ n + 1 by omega)
                  have hih := ih (n + 1) (wUp x n (i : Nat)) (wUp z i (max (oldZ z n i) (s.zs.getD n 0))) (A ++ ptW s r n x z i) (B1 ++ B) C ((n6, blk (wC (wUp x n (i : Nat))) 61) :: Z)
                  refine eCallE (φ := fun C' => φ (A.length + (ptW s r n x z (i + 1)).length) C') (v := fun _ => .bool true) (L' := fun C' => (n6, blk (wC (wUp x n (i : Nat))) 61) :: (onH nz ny nf na l (wUp z i (max (oldZ z n i) (s.zs.getD n 0))) ++ (naH nS na ++ (C' ++ Z)))) rfl (.c rfl (.c rfl .n)) C58 (fun w hw => ?_) fun C hC => ?_
                  · refine (hih w (by omega) (fun j hj => by rw [wUp_ne _ _ (by omega)]; exact hz j (by omega)) (by rw [List.length_append]; exact hC) (by rw [hv, ptW_all, hB1, ptW_succ, brW_pos hok]; simp only [List.append_assoc]) (hw.perm (permP _ [_, _, _, _] C Z))).mono fun e w' h => ?_
                    obtain ⟨C', h1, h2, h3⟩ := h
                    exact ⟨C', by rw [ptW_succ, List.length_append, brW_pos hok, ← Nat.add_assoc]; rw [List.length_append] at h1; exact h1, h2, h3.perm (permP _ [_, _, _, _] C' Z).symm⟩
                  obtain ⟨xq, hxq'⟩ : ∃ q, q = wUp x n (i : Nat) := ⟨_, rfl⟩
                  rw [← hxq']
                  have hxq : ∀ v, wUp xq n v = wUp x n v := fun v => by rw [hxq', wUp_up]
                  refine lV (yAssign rfl) rfl rfl ?_
                  refine lNil ?_
                  refine kThen ?_
                  refine kSeq ?_
                  refine kRegion rfl ?_
                  refine lV (yMove rfl) rfl rfl ?_
                  refine lV (yMove rfl) rfl rfl ?_
                  refine lV (yIndexN rfl rfl R61 ((by omega))) rfl rfl ?_
                  refine lE rfl ?_
                  refine eStoreL 1 rfl rfl rfl rfl K3 rfl (wFits _ (by omega)) ?_
                  refine lNil ?_
                  rw [wWr _ (by omega), wUp_up]
                  first | rw [wUp_self] | rw [show wUp z i 0 = z from by have := wUp_self z i; rwa [hzi (by omega)] at this]
                  refine kThen ?_
                  refine kSeq ?_
                  refine kRegion rfl ?_
                  refine lV (yMove rfl) rfl rfl ?_
                  refine lV (yNot rfl) rfl rfl ?_
                  refine lNil ?_
                  refine kThen ?_
                  refine kIfF rfl ?_
                  refine kSkip ?_
                  refine kInN ?_
                  refine kThen ?_
                  have hround : φ (A.length + (ptW s r n x z (i + 1)).length) C := by
                    first
                      | exact hC
                      | (rw [ptW_succ, brW_neg (by unfold okW; rw [hold, ← hown]; omega), List.append_nil]; exact hC)
                  refine kRegion rfl ?_
                  refine lV (yAdd rfl rfl (by omega)) rfl rfl ?_
                  refine lV (yMove rfl) rfl rfl ?_
                  refine lNil ?_
                  exact kRoundX (i + 1, C, xq) (⟨by dsimp only; omega, hround, hxq⟩) (by dsimp only; omega) rfl (.c rfl .n) (.c rfl (.c rfl (.c rfl (.c rfl (.c rfl (.c rfl (.c rfl (.c rfl (.c rfl (.c rfl (.c rfl (.c rfl (.c rfl (.c rfl (.c rfl (.c rfl .n)))))))))))))))) .r
              · refine lGN rfl rfl rfl rfl rfl ?_
                refine lGN rfl rfl rfl rfl rfl ?_
                refine lGN rfl rfl rfl rfl rfl ?_
                refine lGY rfl rfl rfl (oV (yPickF rfl rfl) rfl ?_)
                refine lV (yPickF rfl rfl) rfl rfl ?_
                refine lNil ?_
                refine kThen ?_
                refine kIfF rfl ?_
                refine kSkip ?_
                refine kThen ?_
                refine kSeq ?_
                have hok : okW s x z n i := by
                  unfold okW
                  rw [hold, ← hown]
                  constructor <;> omega
                refine kRegion rfl ?_
                refine lV (yMove rfl) rfl rfl ?_
                refine lV (yMove rfl) rfl rfl ?_
                refine lV (yMove rfl) rfl rfl ?_
                refine lV (yMove rfl) rfl rfl ?_
                refine lV (yMove rfl) rfl rfl ?_
                refine lV (yMax rfl rfl) rfl rfl ?_
                refine same (t := 89) (u := i64 (max (oldZ z n i) (s.zs.getD n 0))) rfl (by first | (rw [hold, hown]; done) | (rw [hold, hown, hzi (by omega)])) ?_
                refine lV (yIndexN rfl rfl R61 ((by omega))) rfl rfl ?_
                refine lE rfl ?_
                refine eStoreL 0 rfl rfl rfl rfl K3 rfl (wFits xq (by omega)) ?_
                refine lV (yIndexN rfl rfl R61 ((by omega))) rfl rfl ?_
                refine lE rfl ?_
                refine eStoreL 1 rfl rfl rfl rfl K3 rfl (wFits z (by omega)) ?_
                refine lNil ?_
                rw [wWr xq (by omega), wWr z (by omega), hxq]
                refine kThen ?_
                refine kSeq ?_
                refine kRegion rfl ?_
                refine lV (yLoad1 rfl O115 (cOwn 3 rfl rfl)) rfl rfl ?_
                refine lV (yLoadA (vs := [_, _, _, _, _, _, _, _]) rfl A61 (cOwn 0 rfl rfl)) rfl rfl ?_
                refine lV (yMove rfl) rfl rfl ?_
                refine lV (yAdd rfl rfl (by omega)) rfl rfl ?_
                refine lE rfl ?_
                skip
                obtain ⟨B1, hB1⟩ := ptW_pre s r n x z (show i + 1 ≤ n + 1 by omega)
                have hih := ih (n + 1) (wUp x n (i : Nat)) (wUp z i (max (oldZ z n i) (s.zs.getD n 0))) (A ++ ptW s r n x z i) (B1 ++ B) C ((n6, blk (wC (wUp x n (i : Nat))) 61) :: Z)
                refine eCallE (φ := fun C' => φ (A.length + (ptW s r n x z (i + 1)).length) C') (v := fun _ => .bool true) (L' := fun C' => (n6, blk (wC (wUp x n (i : Nat))) 61) :: (onH nz ny nf na l (wUp z i (max (oldZ z n i) (s.zs.getD n 0))) ++ (naH nS na ++ (C' ++ Z)))) rfl (.c rfl (.c rfl .n)) C58 (fun w hw => ?_) fun C hC => ?_
                · refine (hih w (by omega) (fun j hj => by rw [wUp_ne _ _ (by omega)]; exact hz j (by omega)) (by rw [List.length_append]; exact hC) (by rw [hv, ptW_all, hB1, ptW_succ, brW_pos hok]; simp only [List.append_assoc]) (hw.perm (permP _ [_, _, _, _] C Z))).mono fun e w' h => ?_
                  obtain ⟨C', h1, h2, h3⟩ := h
                  exact ⟨C', by rw [ptW_succ, List.length_append, brW_pos hok, ← Nat.add_assoc]; rw [List.length_append] at h1; exact h1, h2, h3.perm (permP _ [_, _, _, _] C' Z).symm⟩
                obtain ⟨xq, hxq'⟩ : ∃ q, q = wUp x n (i : Nat) := ⟨_, rfl⟩
                rw [← hxq']
                have hxq : ∀ v, wUp xq n v = wUp x n v := fun v => by rw [hxq', wUp_up]
                refine lV (yAssign rfl) rfl rfl ?_
                refine lNil ?_
                refine kThen ?_
                refine kSeq ?_
                refine kRegion rfl ?_
                refine lV (yMove rfl) rfl rfl ?_
                refine lV (yMove rfl) rfl rfl ?_
                refine lV (yIndexN rfl rfl R61 ((by omega))) rfl rfl ?_
                refine lE rfl ?_
                refine eStoreL 1 rfl rfl rfl rfl K3 rfl (wFits _ (by omega)) ?_
                refine lNil ?_
                rw [wWr _ (by omega), wUp_up]
                first | rw [wUp_self] | rw [show wUp z i 0 = z from by have := wUp_self z i; rwa [hzi (by omega)] at this]
                refine kThen ?_
                refine kSeq ?_
                refine kRegion rfl ?_
                refine lV (yMove rfl) rfl rfl ?_
                refine lV (yNot rfl) rfl rfl ?_
                refine lNil ?_
                refine kThen ?_
                refine kIfF rfl ?_
                refine kSkip ?_
                refine kInN ?_
                refine kThen ?_
                have hround : φ (A.length + (ptW s r n x z (i + 1)).length) C := by
                  first
                    | exact hC
                    | (rw [ptW_succ, brW_neg (by unfold okW; rw [hold, ← hown]; omega), List.append_nil]; exact hC)
                refine kRegion rfl ?_
                refine lV (yAdd rfl rfl (by omega)) rfl rfl ?_
                refine lV (yMove rfl) rfl rfl ?_
                refine lNil ?_
                exact kRoundX (i + 1, C, xq) (⟨by dsimp only; omega, hround, hxq⟩) (by dsimp only; omega) rfl (.c rfl .n) (.c rfl (.c rfl (.c rfl (.c rfl (.c rfl (.c rfl (.c rfl (.c rfl (.c rfl (.c rfl (.c rfl (.c rfl (.c rfl (.c rfl (.c rfl (.c rfl .n)))))))))))))))) .r
            · refine lGN rfl rfl rfl rfl rfl ?_
              refine lGN rfl rfl rfl rfl rfl ?_
              refine lGY rfl rfl rfl (oV (yPickF rfl rfl) rfl ?_)
              refine lGY rfl rfl rfl (oV (yMove rfl) rfl ?_)
              refine lGN rfl rfl rfl rfl rfl ?_
              refine lGN rfl rfl rfl rfl rfl ?_
              refine lGN rfl rfl rfl rfl rfl ?_
              refine lGY rfl rfl rfl (oV (yPickF rfl rfl) rfl ?_)
              refine lV (yPickF rfl rfl) rfl rfl ?_
              refine lNil ?_
              refine kThen ?_
              refine kIfF rfl ?_
              refine kSkip ?_
              refine kThen ?_
              refine kSeq ?_
              have hok : okW s x z n i := by
                unfold okW
                rw [hold, ← hown]
                constructor <;> omega
              refine kRegion rfl ?_
              refine lV (yMove rfl) rfl rfl ?_
              refine lV (yMove rfl) rfl rfl ?_
              refine lV (yMove rfl) rfl rfl ?_
              refine lV (yMove rfl) rfl rfl ?_
              refine lV (yMove rfl) rfl rfl ?_
              refine lV (yMax rfl rfl) rfl rfl ?_
              refine same (t := 89) (u := i64 (max (oldZ z n i) (s.zs.getD n 0))) rfl (by first | (rw [hold, hown]; done) | (rw [hold, hown, hzi (by omega)])) ?_
              refine lV (yIndexN rfl rfl R61 ((by omega))) rfl rfl ?_
              refine lE rfl ?_
              refine eStoreL 0 rfl rfl rfl rfl K3 rfl (wFits xq (by omega)) ?_
              refine lV (yIndexN rfl rfl R61 ((by omega))) rfl rfl ?_
              refine lE rfl ?_
              refine eStoreL 1 rfl rfl rfl rfl K3 rfl (wFits z (by omega)) ?_
              refine lNil ?_
              rw [wWr xq (by omega), wWr z (by omega), hxq]
              refine kThen ?_
              refine kSeq ?_
              refine kRegion rfl ?_
              refine lV (yLoad1 rfl O115 (cOwn 3 rfl rfl)) rfl rfl ?_
              refine lV (yLoadA (vs := [_, _, _, _, _, _, _, _]) rfl A61 (cOwn 0 rfl rfl)) rfl rfl ?_
              refine lV (yMove rfl) rfl rfl ?_
              refine lV (yAdd rfl rfl (by omega)) rfl rfl ?_
              refine lE rfl ?_
              skip
              obtain ⟨B1, hB1⟩ := ptW_pre s r n x z (show i + 1 ≤ n + 1 by omega)
              have hih := ih (n + 1) (wUp x n (i : Nat)) (wUp z i (max (oldZ z n i) (s.zs.getD n 0))) (A ++ ptW s r n x z i) (B1 ++ B) C ((n6, blk (wC (wUp x n (i : Nat))) 61) :: Z)
              refine eCallE (φ := fun C' => φ (A.length + (ptW s r n x z (i + 1)).length) C') (v := fun _ => .bool true) (L' := fun C' => (n6, blk (wC (wUp x n (i : Nat))) 61) :: (onH nz ny nf na l (wUp z i (max (oldZ z n i) (s.zs.getD n 0))) ++ (naH nS na ++ (C' ++ Z)))) rfl (.c rfl (.c rfl .n)) C58 (fun w hw => ?_) fun C hC => ?_
              · refine (hih w (by omega) (fun j hj => by rw [wUp_ne _ _ (by omega)]; exact hz j (by omega)) (by rw [List.length_append]; exact hC) (by rw [hv, ptW_all, hB1, ptW_succ, brW_pos hok]; simp only [List.append_assoc]) (hw.perm (permP _ [_, _, _, _] C Z))).mono fun e w' h => ?_
                obtain ⟨C', h1, h2, h3⟩ := h
                exact ⟨C', by rw [ptW_succ, List.length_append, brW_pos hok, ← Nat.add_assoc]; rw [List.length_append] at h1; exact h1, h2, h3.perm (permP _ [_, _, _, _] C' Z).symm⟩
              obtain ⟨xq, hxq'⟩ : ∃ q, q = wUp x n (i : Nat) := ⟨_, rfl⟩
              rw [← hxq']
              have hxq : ∀ v, wUp xq n v = wUp x n v := fun v => by rw [hxq', wUp_up]
              refine lV (yAssign rfl) rfl rfl ?_
              refine lNil ?_
              refine kThen ?_
              refine kSeq ?_
              refine kRegion rfl ?_
              refine lV (yMove rfl) rfl rfl ?_
              refine lV (yMove rfl) rfl rfl ?_
              refine lV (yIndexN rfl rfl R61 ((by omega))) rfl rfl ?_
              refine lE rfl ?_
              refine eStoreL 1 rfl rfl rfl rfl K3 rfl (wFits _ (by omega)) ?_
              refine lNil ?_
              rw [wWr _ (by omega), wUp_up]
              first | rw [wUp_self] | rw [show wUp z i 0 = z from by have := wUp_self z i; rwa [hzi (by omega)] at this]
              refine kThen ?_
              refine kSeq ?_
              refine kRegion rfl ?_
              refine lV (yMove rfl) rfl rfl ?_
              refine lV (yNot rfl) rfl rfl ?_
              refine lNil ?_
              refine kThen ?_
              refine kIfF rfl ?_
              refine kSkip ?_
              refine kInN ?_
              refine kThen ?_
              have hround : φ (A.length + (ptW s r n x z (i + 1)).length) C := by
                first
                  | exact hC
                  | (rw [ptW_succ, brW_neg (by unfold okW; rw [hold, ← hown]; omega), List.append_nil]; exact hC)
              refine kRegion rfl ?_
              refine lV (yAdd rfl rfl (by omega)) rfl rfl ?_
              refine lV (yMove rfl) rfl rfl ?_
              refine lNil ?_
              exact kRoundX (i + 1, C, xq) (⟨by dsimp only; omega, hround, hxq⟩) (by dsimp only; omega) rfl (.c rfl .n) (.c rfl (.c rfl (.c rfl (.c rfl (.c rfl (.c rfl (.c rfl (.c rfl (.c rfl (.c rfl (.c rfl (.c rfl (.c rfl (.c rfl (.c rfl (.c rfl .n)))))))))))))))) .r
        · refine lGN rfl rfl rfl rfl rfl ?_
          refine lGN rfl rfl rfl rfl rfl ?_
          refine lGN rfl rfl rfl rfl rfl ?_
          refine lGN rfl rfl rfl rfl rfl ?_
          refine lGN rfl rfl rfl rfl rfl ?_
          refine lV (yPickF rfl rfl) rfl rfl ?_
          refine lV (yMove rfl) rfl rfl ?_
          refine lGY rfl rfl rfl (oV (yMove rfl) rfl ?_)
          refine lGY rfl rfl rfl (oV (yNeq rfl rfl) rfl ?_)
          refine lGY rfl rfl rfl (oV (yMove rfl) rfl ?_)
          refine split (t := 74) rfl (fun h74 => ?_) (fun h74 => ?_)
          · refine lGY rfl rfl rfl (oV (yMove rfl) rfl ?_)
            refine lGY rfl rfl rfl (oV (yNeq rfl rfl) rfl ?_)
            refine lGY rfl rfl rfl (oV (yPickT rfl rfl) rfl ?_)
            refine lGY rfl rfl rfl (oV (yMove rfl) rfl ?_)
            refine split (t := 78) rfl (fun h78 => ?_) (fun h78 => ?_)
            · refine lGY rfl rfl rfl (oV (yMove rfl) rfl ?_)
              refine lGY rfl rfl rfl (oV (yMove rfl) rfl ?_)
              refine lGY rfl rfl rfl (oV (yNeq rfl rfl) rfl ?_)
              refine lGY rfl rfl rfl (oV (yPickT rfl rfl) rfl ?_)
              refine lV (yPickF rfl rfl) rfl rfl ?_
              refine lNil ?_
              refine kThen ?_
              refine split (t := 83) rfl (fun h83 => ?_) (fun h83 => ?_)
              · refine kIfT rfl ?_
                refine kExit ?_
                refine kThenX ?_
                refine kInX ?_
                refine kThen ?_
                have hround : φ (A.length + (ptW s r n x z (i + 1)).length) C := by
                  first
                    | exact hC
                    | (rw [ptW_succ, brW_neg (by unfold okW; rw [hold, ← hown]; omega), List.append_nil]; exact hC)
                refine kRegion rfl ?_
                refine lV (yAdd rfl rfl (by omega)) rfl rfl ?_
                refine lV (yMove rfl) rfl rfl ?_
                refine lNil ?_
                exact kRoundX (i + 1, C, xq) (⟨by dsimp only; omega, hround, hxq⟩) (by dsimp only; omega) rfl (.c rfl .n) (.c rfl (.c rfl (.c rfl (.c rfl (.c rfl (.c rfl (.c rfl (.c rfl (.c rfl (.c rfl (.c rfl (.c rfl (.c rfl (.c rfl (.c rfl (.c rfl .n)))))))))))))))) .r
              · refine kIfF rfl ?_
                refine kSkip ?_
                refine kThen ?_
                refine kSeq ?_
                have hok : okW s x z n i := by
                  unfold okW
                  rw [hold, ← hown]
                  constructor <;> omega
                refine kRegion rfl ?_
                refine lV (yMove rfl) rfl rfl ?_
                refine lV (yMove rfl) rfl rfl ?_
                refine lV (yMove rfl) rfl rfl ?_
                refine lV (yMove rfl) rfl rfl ?_
                refine lV (yMove rfl) rfl rfl ?_
                refine lV (yMax rfl rfl) rfl rfl ?_
                refine same (t := 89) (u := i64 (max (oldZ z n i) (s.zs.getD n 0))) rfl (by first | (rw [hold, hown]; done) | (rw [hold, hown, hzi (by omega)])) ?_
                refine lV (yIndexN rfl rfl R61 ((by omega))) rfl rfl ?_
                refine lE rfl ?_
                refine eStoreL 0 rfl rfl rfl rfl K3 rfl (wFits xq (by omega)) ?_
                refine lV (yIndexN rfl rfl R61 ((by omega))) rfl rfl ?_
                refine lE rfl ?_
                refine eStoreL 1 rfl rfl rfl rfl K3 rfl (wFits z (by omega)) ?_
                refine lNil ?_
                rw [wWr xq (by omega), wWr z (by omega), hxq]
                refine kThen ?_
                refine kSeq ?_
                refine kRegion rfl ?_
                refine lV (yLoad1 rfl O115 (cOwn 3 rfl rfl)) rfl rfl ?_
                refine lV (yLoadA (vs := [_, _, _, _, _, _, _, _]) rfl A61 (cOwn 0 rfl rfl)) rfl rfl ?_
                refine lV (yMove rfl) rfl rfl ?_
                refine lV (yAdd rfl rfl (by omega)) rfl rfl ?_
                refine lE rfl ?_
                skip
                obtain ⟨B1, hB1⟩ := ptW_pre s r n x z (show i + 1 ≤ n + 1 by omega)
                have hih := ih (n + 1) (wUp x n (i : Nat)) (wUp z i (max (oldZ z n i) (s.zs.getD n 0))) (A ++ ptW s r n x z i) (B1 ++ B) C ((n6, blk (wC (wUp x n (i : Nat))) 61) :: Z)
                refine eCallE (φ := fun C' => φ (A.length + (ptW s r n x z (i + 1)).length) C') (v := fun _ => .bool true) (L' := fun C' => (n6, blk (wC (wUp x n (i : Nat))) 61) :: (onH nz ny nf na l (wUp z i (max (oldZ z n i) (s.zs.getD n 0))) ++ (naH nS na ++ (C' ++ Z)))) rfl (.c rfl (.c rfl .n)) C58 (fun w hw => ?_) fun C hC => ?_
                · refine (hih w (by omega) (fun j hj => by rw [wUp_ne _ _ (by omega)]; exact hz j (by omega)) (by rw [List.length_append]; exact hC) (by rw [hv, ptW_all, hB1, ptW_succ, brW_pos hok]; simp only [List.append_assoc]) (hw.perm (permP _ [_, _, _, _] C Z))).mono fun e w' h => ?_
                  obtain ⟨C', h1, h2, h3⟩ := h
                  exact ⟨C', by rw [ptW_succ, List.length_append, brW_pos hok, ← Nat.add_assoc]; rw [List.length_append] at h1; exact h1, h2, h3.perm (permP _ [_, _, _, _] C' Z).symm⟩
                obtain ⟨xq, hxq'⟩ : ∃ q, q = wUp x n (i : Nat) := ⟨_, rfl⟩
                rw [← hxq']
                have hxq : ∀ v, wUp xq n v = wUp x n v := fun v => by rw [hxq', wUp_up]
                refine lV (yAssign rfl) rfl rfl ?_
                refine lNil ?_
                refine kThen ?_
                refine kSeq ?_
                refine kRegion rfl ?_
                refine lV (yMove rfl) rfl rfl ?_
                refine lV (yMove rfl) rfl rfl ?_
                refine lV (yIndexN rfl rfl R61 ((by omega))) rfl rfl ?_
                refine lE rfl ?_
                refine eStoreL 1 rfl rfl rfl rfl K3 rfl (wFits _ (by omega)) ?_
                refine lNil ?_
                rw [wWr _ (by omega), wUp_up]
                first | rw [wUp_self] | rw [show wUp z i 0 = z from by have := wUp_self z i; rwa [hzi (by omega)] at this]
                refine kThen ?_
                refine kSeq ?_
                refine kRegion rfl ?_
                refine lV (yMove rfl) rfl rfl ?_
                refine lV (yNot rfl) rfl rfl ?_
                refine lNil ?_
                refine kThen ?_
                refine kIfF rfl ?_
                refine kSkip ?_
                refine kInN ?_
                refine kThen ?_
                have hround : φ (A.length + (ptW s r n x z (i + 1)).length) C := by
                  first
                    | exact hC
                    | (rw [ptW_succ, brW_neg (by unfold okW; rw [hold, ← hown]; omega), List.append_nil]; exact hC)
                refine kRegion rfl ?_
                refine lV (yAdd rfl rfl (by omega)) rfl rfl ?_
                refine lV (yMove rfl) rfl rfl ?_
                refine lNil ?_
                exact kRoundX (i + 1, C, xq) (⟨by dsimp only; omega, hround, hxq⟩) (by dsimp only; omega) rfl (.c rfl .n) (.c rfl (.c rfl (.c rfl (.c rfl (.c rfl (.c rfl (.c rfl (.c rfl (.c rfl (.c rfl (.c rfl (.c rfl (.c rfl (.c rfl (.c rfl (.c rfl .n)))))))))))))))) .r
            · refine lGN rfl rfl rfl rfl rfl ?_
              refine lGN rfl rfl rfl rfl rfl ?_
              refine lGN rfl rfl rfl rfl rfl ?_
              refine lGY rfl rfl rfl (oV (yPickF rfl rfl) rfl ?_)
              refine lV (yPickF rfl rfl) rfl rfl ?_
              refine lNil ?_
              refine kThen ?_
              refine kIfF rfl ?_
              refine kSkip ?_
              refine kThen ?_
              refine kSeq ?_
              have hok : okW s x z n i := by
                unfold okW
                rw [hold, ← hown]
                constructor <;> omega
              refine kRegion rfl ?_
              refine lV (yMove rfl) rfl rfl ?_
              refine lV (yMove rfl) rfl rfl ?_
              refine lV (yMove rfl) rfl rfl ?_
              refine lV (yMove rfl) rfl rfl ?_
              refine lV (yMove rfl) rfl rfl ?_
              refine lV (yMax rfl rfl) rfl rfl ?_
              refine same (t := 89) (u := i64 (max (oldZ z n i) (s.zs.getD n 0))) rfl (by first | (rw [hold, hown]; done) | (rw [hold, hown, hzi (by omega)])) ?_
              refine lV (yIndexN rfl rfl R61 ((by omega))) rfl rfl ?_
              refine lE rfl ?_
              refine eStoreL 0 rfl rfl rfl rfl K3 rfl (wFits xq (by omega)) ?_
              refine lV (yIndexN rfl rfl R61 ((by omega))) rfl rfl ?_
              refine lE rfl ?_
              refine eStoreL 1 rfl rfl rfl rfl K3 rfl (wFits z (by omega)) ?_
              refine lNil ?_
              rw [wWr xq (by omega), wWr z (by omega), hxq]
              refine kThen ?_
              refine kSeq ?_
              refine kRegion rfl ?_
              refine lV (yLoad1 rfl O115 (cOwn 3 rfl rfl)) rfl rfl ?_
              refine lV (yLoadA (vs := [_, _, _, _, _, _, _, _]) rfl A61 (cOwn 0 rfl rfl)) rfl rfl ?_
              refine lV (yMove rfl) rfl rfl ?_
              refine lV (yAdd rfl rfl (by omega)) rfl rfl ?_
              refine lE rfl ?_
              skip
              obtain ⟨B1, hB1⟩ := ptW_pre s r n x z (show i + 1 ≤ n + 1 by omega)
              have hih := ih (n + 1) (wUp x n (i : Nat)) (wUp z i (max (oldZ z n i) (s.zs.getD n 0))) (A ++ ptW s r n x z i) (B1 ++ B) C ((n6, blk (wC (wUp x n (i : Nat))) 61) :: Z)
              refine eCallE (φ := fun C' => φ (A.length + (ptW s r n x z (i + 1)).length) C') (v := fun _ => .bool true) (L' := fun C' => (n6, blk (wC (wUp x n (i : Nat))) 61) :: (onH nz ny nf na l (wUp z i (max (oldZ z n i) (s.zs.getD n 0))) ++ (naH nS na ++ (C' ++ Z)))) rfl (.c rfl (.c rfl .n)) C58 (fun w hw => ?_) fun C hC => ?_
              · refine (hih w (by omega) (fun j hj => by rw [wUp_ne _ _ (by omega)]; exact hz j (by omega)) (by rw [List.length_append]; exact hC) (by rw [hv, ptW_all, hB1, ptW_succ, brW_pos hok]; simp only [List.append_assoc]) (hw.perm (permP _ [_, _, _, _] C Z))).mono fun e w' h => ?_
                obtain ⟨C', h1, h2, h3⟩ := h
                exact ⟨C', by rw [ptW_succ, List.length_append, brW_pos hok, ← Nat.add_assoc]; rw [List.length_append] at h1; exact h1, h2, h3.perm (permP _ [_, _, _, _] C' Z).symm⟩
              obtain ⟨xq, hxq'⟩ : ∃ q, q = wUp x n (i : Nat) := ⟨_, rfl⟩
              rw [← hxq']
              have hxq : ∀ v, wUp xq n v = wUp x n v := fun v => by rw [hxq', wUp_up]
              refine lV (yAssign rfl) rfl rfl ?_
              refine lNil ?_
              refine kThen ?_
              refine kSeq ?_
              refine kRegion rfl ?_
              refine lV (yMove rfl) rfl rfl ?_
              refine lV (yMove rfl) rfl rfl ?_
              refine lV (yIndexN rfl rfl R61 ((by omega))) rfl rfl ?_
              refine lE rfl ?_
              refine eStoreL 1 rfl rfl rfl rfl K3 rfl (wFits _ (by omega)) ?_
              refine lNil ?_
              rw [wWr _ (by omega), wUp_up]
              first | rw [wUp_self] | rw [show wUp z i 0 = z from by have := wUp_self z i; rwa [hzi (by omega)] at this]
              refine kThen ?_
              refine kSeq ?_
              refine kRegion rfl ?_
              refine lV (yMove rfl) rfl rfl ?_
              refine lV (yNot rfl) rfl rfl ?_
              refine lNil ?_
              refine kThen ?_
              refine kIfF rfl ?_
              refine kSkip ?_
              refine kInN ?_
              refine kThen ?_
              have hround : φ (A.length + (ptW s r n x z (i + 1)).length) C := by
                first
                  | exact hC
                  | (rw [ptW_succ, brW_neg (by unfold okW; rw [hold, ← hown]; omega), List.append_nil]; exact hC)
              refine kRegion rfl ?_
              refine lV (yAdd rfl rfl (by omega)) rfl rfl ?_
              refine lV (yMove rfl) rfl rfl ?_
              refine lNil ?_
              exact kRoundX (i + 1, C, xq) (⟨by dsimp only; omega, hround, hxq⟩) (by dsimp only; omega) rfl (.c rfl .n) (.c rfl (.c rfl (.c rfl (.c rfl (.c rfl (.c rfl (.c rfl (.c rfl (.c rfl (.c rfl (.c rfl (.c rfl (.c rfl (.c rfl (.c rfl (.c rfl .n)))))))))))))))) .r
          · refine lGN rfl rfl rfl rfl rfl ?_
            refine lGN rfl rfl rfl rfl rfl ?_
            refine lGY rfl rfl rfl (oV (yPickF rfl rfl) rfl ?_)
            refine lGY rfl rfl rfl (oV (yMove rfl) rfl ?_)
            refine lGN rfl rfl rfl rfl rfl ?_
            refine lGN rfl rfl rfl rfl rfl ?_
            refine lGN rfl rfl rfl rfl rfl ?_
            refine lGY rfl rfl rfl (oV (yPickF rfl rfl) rfl ?_)
            refine lV (yPickF rfl rfl) rfl rfl ?_
            refine lNil ?_
            refine kThen ?_
            refine kIfF rfl ?_
            refine kSkip ?_
            refine kThen ?_
            refine kSeq ?_
            have hok : okW s x z n i := by
              unfold okW
              rw [hold, ← hown]
              constructor <;> omega
            refine kRegion rfl ?_
            refine lV (yMove rfl) rfl rfl ?_
            refine lV (yMove rfl) rfl rfl ?_
            refine lV (yMove rfl) rfl rfl ?_
            refine lV (yMove rfl) rfl rfl ?_
            refine lV (yMove rfl) rfl rfl ?_
            refine lV (yMax rfl rfl) rfl rfl ?_
            refine same (t := 89) (u := i64 (max (oldZ z n i) (s.zs.getD n 0))) rfl (by first | (rw [hold, hown]; done) | (rw [hold, hown, hzi (by omega)])) ?_
            refine lV (yIndexN rfl rfl R61 ((by omega))) rfl rfl ?_
            refine lE rfl ?_
            refine eStoreL 0 rfl rfl rfl rfl K3 rfl (wFits xq (by omega)) ?_
            refine lV (yIndexN rfl rfl R61 ((by omega))) rfl rfl ?_
            refine lE rfl ?_
            refine eStoreL 1 rfl rfl rfl rfl K3 rfl (wFits z (by omega)) ?_
            refine lNil ?_
            rw [wWr xq (by omega), wWr z (by omega), hxq]
            refine kThen ?_
            refine kSeq ?_
            refine kRegion rfl ?_
            refine lV (yLoad1 rfl O115 (cOwn 3 rfl rfl)) rfl rfl ?_
            refine lV (yLoadA (vs := [_, _, _, _, _, _, _, _]) rfl A61 (cOwn 0 rfl rfl)) rfl rfl ?_
            refine lV (yMove rfl) rfl rfl ?_
            refine lV (yAdd rfl rfl (by omega)) rfl rfl ?_
            refine lE rfl ?_
            skip
            obtain ⟨B1, hB1⟩ := ptW_pre s r n x z (show i + 1 ≤ n + 1 by omega)
            have hih := ih (n + 1) (wUp x n (i : Nat)) (wUp z i (max (oldZ z n i) (s.zs.getD n 0))) (A ++ ptW s r n x z i) (B1 ++ B) C ((n6, blk (wC (wUp x n (i : Nat))) 61) :: Z)
            refine eCallE (φ := fun C' => φ (A.length + (ptW s r n x z (i + 1)).length) C') (v := fun _ => .bool true) (L' := fun C' => (n6, blk (wC (wUp x n (i : Nat))) 61) :: (onH nz ny nf na l (wUp z i (max (oldZ z n i) (s.zs.getD n 0))) ++ (naH nS na ++ (C' ++ Z)))) rfl (.c rfl (.c rfl .n)) C58 (fun w hw => ?_) fun C hC => ?_
            · refine (hih w (by omega) (fun j hj => by rw [wUp_ne _ _ (by omega)]; exact hz j (by omega)) (by rw [List.length_append]; exact hC) (by rw [hv, ptW_all, hB1, ptW_succ, brW_pos hok]; simp only [List.append_assoc]) (hw.perm (permP _ [_, _, _, _] C Z))).mono fun e w' h => ?_
              obtain ⟨C', h1, h2, h3⟩ := h
              exact ⟨C', by rw [ptW_succ, List.length_append, brW_pos hok, ← Nat.add_assoc]; rw [List.length_append] at h1; exact h1, h2, h3.perm (permP _ [_, _, _, _] C' Z).symm⟩
            obtain ⟨xq, hxq'⟩ : ∃ q, q = wUp x n (i : Nat) := ⟨_, rfl⟩
            rw [← hxq']
            have hxq : ∀ v, wUp xq n v = wUp x n v := fun v => by rw [hxq', wUp_up]
            refine lV (yAssign rfl) rfl rfl ?_
            refine lNil ?_
            refine kThen ?_
            refine kSeq ?_
            refine kRegion rfl ?_
            refine lV (yMove rfl) rfl rfl ?_
            refine lV (yMove rfl) rfl rfl ?_
            refine lV (yIndexN rfl rfl R61 ((by omega))) rfl rfl ?_
            refine lE rfl ?_
            refine eStoreL 1 rfl rfl rfl rfl K3 rfl (wFits _ (by omega)) ?_
            refine lNil ?_
            rw [wWr _ (by omega), wUp_up]
            first | rw [wUp_self] | rw [show wUp z i 0 = z from by have := wUp_self z i; rwa [hzi (by omega)] at this]
            refine kThen ?_
            refine kSeq ?_
            refine kRegion rfl ?_
            refine lV (yMove rfl) rfl rfl ?_
            refine lV (yNot rfl) rfl rfl ?_
            refine lNil ?_
            refine kThen ?_
            refine kIfF rfl ?_
            refine kSkip ?_
            refine kInN ?_
            refine kThen ?_
            have hround : φ (A.length + (ptW s r n x z (i + 1)).length) C := by
              first
                | exact hC
                | (rw [ptW_succ, brW_neg (by unfold okW; rw [hold, ← hown]; omega), List.append_nil]; exact hC)
            refine kRegion rfl ?_
            refine lV (yAdd rfl rfl (by omega)) rfl rfl ?_
            refine lV (yMove rfl) rfl rfl ?_
            refine lNil ?_
            exact kRoundX (i + 1, C, xq) (⟨by dsimp only; omega, hround, hxq⟩) (by dsimp only; omega) rfl (.c rfl .n) (.c rfl (.c rfl (.c rfl (.c rfl (.c rfl (.c rfl (.c rfl (.c rfl (.c rfl (.c rfl (.c rfl (.c rfl (.c rfl (.c rfl (.c rfl (.c rfl .n)))))))))))))))) .r
      · refine kIfF rfl ?_
        refine kSkip ?_
        refine kThen ?_
        refine kSeq ?_
        refine kSeq ?_
        refine kRegion rfl ?_
        refine lV (yMove rfl) rfl rfl ?_
        refine lV (yMove rfl) rfl rfl ?_
        refine lV (yLss rfl rfl) rfl rfl ?_
        refine lV (yMove rfl) rfl rfl ?_
        refine split (t := 64) rfl (fun h64 => ?_) (fun h64 => ?_)
        · refine lGY rfl rfl rfl (oV (yMove rfl) rfl ?_)
          refine lGY rfl rfl rfl (oV (yIndexN rfl rfl R61 ((by omega))) rfl ?_)
          refine lGY rfl rfl rfl (oV (yLoad1 rfl O3 (cOwn 0 rfl (wSub xq (by omega)))) rfl ?_)
          refine lGY rfl rfl rfl (oV (yMove rfl) rfl ?_)
          refine lGY rfl rfl rfl (oV (yNeq rfl rfl) rfl ?_)
          refine lV (yPickT rfl rfl) rfl rfl ?_
          refine lV (yMove rfl) rfl rfl ?_
          refine split (t := 71) rfl (fun h71 => ?_) (fun h71 => ?_)
          · refine lGN rfl rfl rfl rfl rfl ?_
            refine lGN rfl rfl rfl rfl rfl ?_
            refine lGN rfl rfl rfl rfl rfl ?_
            refine lGU rfl rfl rfl rfl ?_
            refine lGU rfl rfl rfl rfl ?_
            refine lGN rfl rfl rfl rfl rfl ?_
            refine lGN rfl rfl rfl rfl rfl ?_
            refine lGU rfl rfl rfl rfl ?_
            refine lGU rfl rfl rfl rfl ?_
            refine lGU rfl rfl rfl rfl ?_
            refine lGN rfl rfl rfl rfl rfl ?_
            refine lV (yPickT rfl rfl) rfl rfl ?_
            refine lNil ?_
            refine kThen ?_
            refine kIfT rfl ?_
            refine kExit ?_
            refine kThenX ?_
            refine kInX ?_
            refine kThen ?_
            have hround : φ (A.length + (ptW s r n x z (i + 1)).length) C := by
              first
                | exact hC
                | (rw [ptW_succ, brW_neg (by unfold okW; rw [hold, ← hown]; omega), List.append_nil]; exact hC)
            refine kRegion rfl ?_
            refine lV (yAdd rfl rfl (by omega)) rfl rfl ?_
            refine lV (yMove rfl) rfl rfl ?_
            refine lNil ?_
            exact kRoundX (i + 1, C, xq) (⟨by dsimp only; omega, hround, hxq⟩) (by dsimp only; omega) rfl (.c rfl .n) (.c rfl (.c rfl (.c rfl (.c rfl (.c rfl (.c rfl (.c rfl (.c rfl (.c rfl (.c rfl (.c rfl (.c rfl (.c rfl (.c rfl (.c rfl (.c rfl .n)))))))))))))))) .r
          · refine lGY rfl rfl rfl (oV (yMove rfl) rfl ?_)
            refine lGY rfl rfl rfl (oV (yNeq rfl rfl) rfl ?_)
            refine lGY rfl rfl rfl (oV (yMove rfl) rfl ?_)
            refine split (t := 74) rfl (fun h74 => ?_) (fun h74 => ?_)
            · refine lGY rfl rfl rfl (oV (yMove rfl) rfl ?_)
              refine lGY rfl rfl rfl (oV (yNeq rfl rfl) rfl ?_)
              refine lGY rfl rfl rfl (oV (yPickT rfl rfl) rfl ?_)
              refine lGY rfl rfl rfl (oV (yMove rfl) rfl ?_)
              refine split (t := 78) rfl (fun h78 => ?_) (fun h78 => ?_)
              · refine lGY rfl rfl rfl (oV (yMove rfl) rfl ?_)
                refine lGY rfl rfl rfl (oV (yMove rfl) rfl ?_)
                refine lGY rfl rfl rfl (oV (yNeq rfl rfl) rfl ?_)
                refine lGY rfl rfl rfl (oV (yPickT rfl rfl) rfl ?_)
                refine lV (yPickF rfl rfl) rfl rfl ?_
                refine lNil ?_
                refine kThen ?_
                refine split (t := 83) rfl (fun h83 => ?_) (fun h83 => ?_)
                · refine kIfT rfl ?_
                  refine kExit ?_
                  refine kThenX ?_
                  refine kInX ?_
                  refine kThen ?_
                  have hround : φ (A.length + (ptW s r n x z (i + 1)).length) C := by
                    first
                      | exact hC
                      | (rw [ptW_succ, brW_neg (by unfold okW; rw [hold, ← hown]; omega), List.append_nil]; exact hC)
                  refine kRegion rfl ?_
                  refine lV (yAdd rfl rfl (by omega)) rfl rfl ?_
                  refine lV (yMove rfl) rfl rfl ?_
                  refine lNil ?_
                  exact kRoundX (i + 1, C, xq) (⟨by dsimp only; omega, hround, hxq⟩) (by dsimp only; omega) rfl (.c rfl .n) (.c rfl (.c rfl (.c rfl (.c rfl (.c rfl (.c rfl (.c rfl (.c rfl (.c rfl (.c rfl (.c rfl (.c rfl (.c rfl (.c rfl (.c rfl (.c rfl .n)))))))))))))))) .r
                · refine kIfF rfl ?_
                  refine kSkip ?_
                  refine kThen ?_
                  refine kSeq ?_
                  have hok : okW s x z n i := by
                    unfold okW
                    rw [hold, ← hown]
                    constructor <;> omega
                  refine kRegion rfl ?_
                  refine lV (yMove rfl) rfl rfl ?_
                  refine lV (yMove rfl) rfl rfl ?_
                  refine lV (yMove rfl) rfl rfl ?_
                  refine lV (yMove rfl) rfl rfl ?_
                  refine lV (yMove rfl) rfl rfl ?_
                  refine lV (yMax rfl rfl) rfl rfl ?_
                  refine same (t := 89) (u := i64 (max (oldZ z n i) (s.zs.getD n 0))) rfl (by first | (rw [hold, hown]; done) | (rw [hold, hown, hzi (by omega)])) ?_
                  refine lV (yIndexN rfl rfl R61 ((by omega))) rfl rfl ?_
                  refine lE rfl ?_
                  refine eStoreL 0 rfl rfl rfl rfl K3 rfl (wFits xq (by omega)) ?_
                  refine lV (yIndexN rfl rfl R61 ((by omega))) rfl rfl ?_
                  refine lE rfl ?_
                  refine eStoreL 1 rfl rfl rfl rfl K3 rfl (wFits z (by omega)) ?_
                  refine lNil ?_
                  rw [wWr xq (by omega), wWr z (by omega), hxq]
                  refine kThen ?_
                  refine kSeq ?_
                  refine kRegion rfl ?_
                  refine lV (yLoad1 rfl O115 (cOwn 3 rfl rfl)) rfl rfl ?_
                  refine lV (yLoadA (vs := [_, _, _, _, _, _, _, _]) rfl A61 (cOwn 0 rfl rfl)) rfl rfl ?_
                  refine lV (yMove rfl) rfl rfl ?_
                  refine lV (yAdd rfl rfl (by omega)) rfl rfl ?_
                  refine lE rfl ?_
                  skip
                  obtain ⟨B1, hB1⟩ := ptW_pre s r n x z (show i + 1 ≤ n + 1 by omega)
                  have hih := ih (n + 1) (wUp x n (i : Nat)) (wUp z i (max (oldZ z n i) (s.zs.getD n 0))) (A ++ ptW s r n x z i) (B1 ++ B) C ((n6, blk (wC (wUp x n (i : Nat))) 61) :: Z)
                  refine eCallE (φ := fun C' => φ (A.length + (ptW s r n x z (i + 1)).length) C') (v := fun _ => .bool true) (L' := fun C' => (n6, blk (wC (wUp x n (i : Nat))) 61) :: (onH nz ny nf na l (wUp z i (max (oldZ z n i) (s.zs.getD n 0))) ++ (naH nS na ++ (C' ++ Z)))) rfl (.c rfl (.c rfl .n)) C58 (fun w hw => ?_) fun C hC => ?_
                  · refine (hih w (by omega) (fun j hj => by rw [wUp_ne _ _ (by omega)]; exact hz j (by omega)) (by rw [List.length_append]; exact hC) (by rw [hv, ptW_all, hB1, ptW_succ, brW_pos hok]; simp only [List.append_assoc]) (hw.perm (permP _ [_, _, _, _] C Z))).mono fun e w' h => ?_
                    obtain ⟨C', h1, h2, h3⟩ := h
                    exact ⟨C', by rw [ptW_succ, List.length_append, brW_pos hok, ← Nat.add_assoc]; rw [List.length_append] at h1; exact h1, h2, h3.perm (permP _ [_, _, _, _] C' Z).symm⟩
                  obtain ⟨xq, hxq'⟩ : ∃ q, q = wUp x n (i : Nat) := ⟨_, rfl⟩
                  rw [← hxq']
                  have hxq : ∀ v, wUp xq n v = wUp x n v := fun v => by rw [hxq', wUp_up]
                  refine lV (yAssign rfl) rfl rfl ?_
                  refine lNil ?_
                  refine kThen ?_
                  refine kSeq ?_
                  refine kRegion rfl ?_
                  refine lV (yMove rfl) rfl rfl ?_
                  refine lV (yMove rfl) rfl rfl ?_
                  refine lV (yIndexN rfl rfl R61 ((by omega))) rfl rfl ?_
                  refine lE rfl ?_
                  refine eStoreL 1 rfl rfl rfl rfl K3 rfl (wFits _ (by omega)) ?_
                  refine lNil ?_
                  rw [wWr _ (by omega), wUp_up]
                  first | rw [wUp_self] | rw [show wUp z i 0 = z from by have := wUp_self z i; rwa [hzi (by omega)] at this]
                  refine kThen ?_
                  refine kSeq ?_
                  refine kRegion rfl ?_
                  refine lV (yMove rfl) rfl rfl ?_
                  refine lV (yNot rfl) rfl rfl ?_
                  refine lNil ?_
                  refine kThen ?_
                  refine kIfF rfl ?_
                  refine kSkip ?_
                  refine kInN ?_
                  refine kThen ?_
                  have hround : φ (A.length + (ptW s r n x z (i + 1)).length) C := by
                    first
                      | exact hC
                      | (rw [ptW_succ, brW_neg (by unfold okW; rw [hold, ← hown]; omega), List.append_nil]; exact hC)
                  refine kRegion rfl ?_
                  refine lV (yAdd rfl rfl (by omega)) rfl rfl ?_
                  refine lV (yMove rfl) rfl rfl ?_
                  refine lNil ?_
                  exact kRoundX (i + 1, C, xq) (⟨by dsimp only; omega, hround, hxq⟩) (by dsimp only; omega) rfl (.c rfl .n) (.c rfl (.c rfl (.c rfl (.c rfl (.c rfl (.c rfl (.c rfl (.c rfl (.c rfl (.c rfl (.c rfl (.c rfl (.c rfl (.c rfl (.c rfl (.c rfl .n)))))))))))))))) .r
              · refine lGN rfl rfl rfl rfl rfl ?_
                refine lGN rfl rfl rfl rfl rfl ?_
                refine lGN rfl rfl rfl rfl rfl ?_
                refine lGY rfl rfl rfl (oV (yPickF rfl rfl) rfl ?_)
                refine lV (yPickF rfl rfl) rfl rfl ?_
                refine lNil ?_
                refine kThen ?_
                refine kIfF rfl ?_
                refine kSkip ?_
                refine kThen ?_
                refine kSeq ?_
                have hok : okW s x z n i := by
                  unfold okW
                  rw [hold, ← hown]
                  constructor <;> omega
                refine kRegion rfl ?_
                refine lV (yMove rfl) rfl rfl ?_
                refine lV (yMove rfl) rfl rfl ?_
                refine lV (yMove rfl) rfl rfl ?_
                refine lV (yMove rfl) rfl rfl ?_
                refine lV (yMove rfl) rfl rfl ?_
                refine lV (yMax rfl rfl) rfl rfl ?_
                refine same (t := 89) (u := i64 (max (oldZ z n i) (s.zs.getD n 0))) rfl (by first | (rw [hold, hown]; done) | (rw [hold, hown, hzi (by omega)])) ?_
                refine lV (yIndexN rfl rfl R61 ((by omega))) rfl rfl ?_
                refine lE rfl ?_
                refine eStoreL 0 rfl rfl rfl rfl K3 rfl (wFits xq (by omega)) ?_
                refine lV (yIndexN rfl rfl R61 ((by omega))) rfl rfl ?_
                refine lE rfl ?_
                refine eStoreL 1 rfl rfl rfl rfl K3 rfl (wFits z (by omega)) ?_
                refine lNil ?_
                rw [wWr xq (by omega), wWr z (by omega), hxq]
                refine kThen ?_
                refine kSeq ?_
                refine kRegion rfl ?_
                refine lV (yLoad1 rfl O115 (cOwn 3 rfl rfl)) rfl rfl ?_
                refine lV (yLoadA (vs := [_, _, _, _, _, _, _, _]) rfl A61 (cOwn 0 rfl rfl)) rfl rfl ?_
                refine lV (yMove rfl) rfl rfl ?_
                refine lV (yAdd rfl rfl (by omega)) rfl rfl ?_
                refine lE rfl ?_
                skip
                obtain ⟨B1, hB1⟩ := ptW_pre s r n x z (show i + 1 ≤ n + 1 by omega)
                have hih := ih (n + 1) (wUp x n (i : Nat)) (wUp z i (max (oldZ z n i) (s.zs.getD n 0))) (A ++ ptW s r n x z i) (B1 ++ B) C ((n6, blk (wC (wUp x n (i : Nat))) 61) :: Z)
                refine eCallE (φ := fun C' => φ (A.length + (ptW s r n x z (i + 1)).length) C') (v := fun _ => .bool true) (L' := fun C' => (n6, blk (wC (wUp x n (i : Nat))) 61) :: (onH nz ny nf na l (wUp z i (max (oldZ z n i) (s.zs.getD n 0))) ++ (naH nS na ++ (C' ++ Z)))) rfl (.c rfl (.c rfl .n)) C58 (fun w hw => ?_) fun C hC => ?_
                · refine (hih w (by omega) (fun j hj => by rw [wUp_ne _ _ (by omega)]; exact hz j (by omega)) (by rw [List.length_append]; exact hC) (by rw [hv, ptW_all, hB1, ptW_succ, brW_pos hok]; simp only [List.append_assoc]) (hw.perm (permP _ [_, _, _, _] C Z))).mono fun e w' h => ?_
                  obtain ⟨C', h1, h2, h3⟩ := h
                  exact ⟨C', by rw [ptW_succ, List.length_append, brW_pos hok, ← Nat.add_assoc]; rw [List.length_append] at h1; exact h1, h2, h3.perm (permP _ [_, _, _, _] C' Z).symm⟩
                obtain ⟨xq, hxq'⟩ : ∃ q, q = wUp x n (i : Nat) := ⟨_, rfl⟩
                rw [← hxq']
                have hxq : ∀ v, wUp xq n v = wUp x n v := fun v => by rw [hxq', wUp_up]
                refine lV (yAssign rfl) rfl rfl ?_
                refine lNil ?_
                refine kThen ?_
                refine kSeq ?_
                refine kRegion rfl ?_
                refine lV (yMove rfl) rfl rfl ?_
                refine lV (yMove rfl) rfl rfl ?_
                refine lV (yIndexN rfl rfl R61 ((by omega))) rfl rfl ?_
                refine lE rfl ?_
                refine eStoreL 1 rfl rfl rfl rfl K3 rfl (wFits _ (by omega)) ?_
                refine lNil ?_
                rw [wWr _ (by omega), wUp_up]
                first | rw [wUp_self] | rw [show wUp z i 0 = z from by have := wUp_self z i; rwa [hzi (by omega)] at this]
                refine kThen ?_
                refine kSeq ?_
                refine kRegion rfl ?_
                refine lV (yMove rfl) rfl rfl ?_
                refine lV (yNot rfl) rfl rfl ?_
                refine lNil ?_
                refine kThen ?_
                refine kIfF rfl ?_
                refine kSkip ?_
                refine kInN ?_
                refine kThen ?_
                have hround : φ (A.length + (ptW s r n x z (i + 1)).length) C := by
                  first
                    | exact hC
                    | (rw [ptW_succ, brW_neg (by unfold okW; rw [hold, ← hown]; omega), List.append_nil]; exact hC)
                refine kRegion rfl ?_
                refine lV (yAdd rfl rfl (by omega)) rfl rfl ?_
                refine lV (yMove rfl) rfl rfl ?_
                refine lNil ?_
                exact kRoundX (i + 1, C, xq) (⟨by dsimp only; omega, hround, hxq⟩) (by dsimp only; omega) rfl (.c rfl .n) (.c rfl (.c rfl (.c rfl (.c rfl (.c rfl (.c rfl (.c rfl (.c rfl (.c rfl (.c rfl (.c rfl (.c rfl (.c rfl (.c rfl (.c rfl (.c rfl .n)))))))))))))))) .r
            · refine lGN rfl rfl rfl rfl rfl ?_
              refine lGN rfl rfl rfl rfl rfl ?_
              refine lGY rfl rfl rfl (oV (yPickF rfl rfl) rfl ?_)
              refine lGY rfl rfl rfl (oV (yMove rfl) rfl ?_)
              refine lGN rfl rfl rfl rfl rfl ?_
              refine lGN rfl rfl rfl rfl rfl ?_
              refine lGN rfl rfl rfl rfl rfl ?_
              refine lGY rfl rfl rfl (oV (yPickF rfl rfl) rfl ?_)
              refine lV (yPickF rfl rfl) rfl rfl ?_
              refine lNil ?_
              refine kThen ?_
              refine kIfF rfl ?_
              refine kSkip ?_
              refine kThen ?_
              refine kSeq ?_
              have hok : okW s x z n i := by
                unfold okW
                rw [hold, ← hown]
                constructor <;> omega
              refine kRegion rfl ?_
              refine lV (yMove rfl) rfl rfl ?_
              refine lV (yMove rfl) rfl rfl ?_
              refine lV (yMove rfl) rfl rfl ?_
              refine lV (yMove rfl) rfl rfl ?_
              refine lV (yMove rfl) rfl rfl ?_
              refine lV (yMax rfl rfl) rfl rfl ?_
              refine same (t := 89) (u := i64 (max (oldZ z n i) (s.zs.getD n 0))) rfl (by first | (rw [hold, hown]; done) | (rw [hold, hown, hzi (by omega)])) ?_
              refine lV (yIndexN rfl rfl R61 ((by omega))) rfl rfl ?_
              refine lE rfl ?_
              refine eStoreL 0 rfl rfl rfl rfl K3 rfl (wFits xq (by omega)) ?_
              refine lV (yIndexN rfl rfl R61 ((by omega))) rfl rfl ?_
              refine lE rfl ?_
              refine eStoreL 1 rfl rfl rfl rfl K3 rfl (wFits z (by omega)) ?_
              refine lNil ?_
              rw [wWr xq (by omega), wWr z (by omega), hxq]
              refine kThen ?_
              refine kSeq ?_
              refine kRegion rfl ?_
              refine lV (yLoad1 rfl O115 (cOwn 3 rfl rfl)) rfl rfl ?_
              refine lV (yLoadA (vs := [_, _, _, _, _, _, _, _]) rfl A61 (cOwn 0 rfl rfl)) rfl rfl ?_
              refine lV (yMove rfl) rfl rfl ?_
              refine lV (yAdd rfl rfl (by omega)) rfl rfl ?_
              refine lE rfl ?_
              skip
              obtain ⟨B1, hB1⟩ := ptW_pre s r n x z (show i + 1 ≤ n + 1 by omega)
              have hih := ih (n + 1) (wUp x n (i : Nat)) (wUp z i (max (oldZ z n i) (s.zs.getD n 0))) (A ++ ptW s r n x z i) (B1 ++ B) C ((n6, blk (wC (wUp x n (i : Nat))) 61) :: Z)
              refine eCallE (φ := fun C' => φ (A.length + (ptW s r n x z (i + 1)).length) C') (v := fun _ => .bool true) (L' := fun C' => (n6, blk (wC (wUp x n (i : Nat))) 61) :: (onH nz ny nf na l (wUp z i (max (oldZ z n i) (s.zs.getD n 0))) ++ (naH nS na ++ (C' ++ Z)))) rfl (.c rfl (.c rfl .n)) C58 (fun w hw => ?_) fun C hC => ?_
              · refine (hih w (by omega) (fun j hj => by rw [wUp_ne _ _ (by omega)]; exact hz j (by omega)) (by rw [List.length_append]; exact hC) (by rw [hv, ptW_all, hB1, ptW_succ, brW_pos hok]; simp only [List.append_assoc]) (hw.perm (permP _ [_, _, _, _] C Z))).mono fun e w' h => ?_
                obtain ⟨C', h1, h2, h3⟩ := h
                exact ⟨C', by rw [ptW_succ, List.length_append, brW_pos hok, ← Nat.add_assoc]; rw [List.length_append] at h1; exact h1, h2, h3.perm (permP _ [_, _, _, _] C' Z).symm⟩
              obtain ⟨xq, hxq'⟩ : ∃ q, q = wUp x n (i : Nat) := ⟨_, rfl⟩
              rw [← hxq']
              have hxq : ∀ v, wUp xq n v = wUp x n v := fun v => by rw [hxq', wUp_up]
              refine lV (yAssign rfl) rfl rfl ?_
              refine lNil ?_
              refine kThen ?_
              refine kSeq ?_
              refine kRegion rfl ?_
              refine lV (yMove rfl) rfl rfl ?_
              refine lV (yMove rfl) rfl rfl ?_
              refine lV (yIndexN rfl rfl R61 ((by omega))) rfl rfl ?_
              refine lE rfl ?_
              refine eStoreL 1 rfl rfl rfl rfl K3 rfl (wFits _ (by omega)) ?_
              refine lNil ?_
              rw [wWr _ (by omega), wUp_up]
              first | rw [wUp_self] | rw [show wUp z i 0 = z from by have := wUp_self z i; rwa [hzi (by omega)] at this]
              refine kThen ?_
              refine kSeq ?_
              refine kRegion rfl ?_
              refine lV (yMove rfl) rfl rfl ?_
              refine lV (yNot rfl) rfl rfl ?_
              refine lNil ?_
              refine kThen ?_
              refine kIfF rfl ?_
              refine kSkip ?_
              refine kInN ?_
              refine kThen ?_
              have hround : φ (A.length + (ptW s r n x z (i + 1)).length) C := by
                first
                  | exact hC
                  | (rw [ptW_succ, brW_neg (by unfold okW; rw [hold, ← hown]; omega), List.append_nil]; exact hC)
              refine kRegion rfl ?_
              refine lV (yAdd rfl rfl (by omega)) rfl rfl ?_
              refine lV (yMove rfl) rfl rfl ?_
              refine lNil ?_
              exact kRoundX (i + 1, C, xq) (⟨by dsimp only; omega, hround, hxq⟩) (by dsimp only; omega) rfl (.c rfl .n) (.c rfl (.c rfl (.c rfl (.c rfl (.c rfl (.c rfl (.c rfl (.c rfl (.c rfl (.c rfl (.c rfl (.c rfl (.c rfl (.c rfl (.c rfl (.c rfl .n)))))))))))))))) .r
        · refine lGN rfl rfl rfl rfl rfl ?_
          refine lGN rfl rfl rfl rfl rfl ?_
          refine lGN rfl rfl rfl rfl rfl ?_
          refine lGN rfl rfl rfl rfl rfl ?_
          refine lGN rfl rfl rfl rfl rfl ?_
          refine lV (yPickF rfl rfl) rfl rfl ?_
          refine lV (yMove rfl) rfl rfl ?_
          refine lGY rfl rfl rfl (oV (yMove rfl) rfl ?_)
          refine lGY rfl rfl rfl (oV (yNeq rfl rfl) rfl ?_)
          refine lGY rfl rfl rfl (oV (yMove rfl) rfl ?_)
          refine split (t := 74) rfl (fun h74 => ?_) (fun h74 => ?_)
          · refine lGY rfl rfl rfl (oV (yMove rfl) rfl ?_)
            refine lGY rfl rfl rfl (oV (yNeq rfl rfl) rfl ?_)
            refine lGY rfl rfl rfl (oV (yPickT rfl rfl) rfl ?_)
            refine lGY rfl rfl rfl (oV (yMove rfl) rfl ?_)
            refine split (t := 78) rfl (fun h78 => ?_) (fun h78 => ?_)
            · refine lGY rfl rfl rfl (oV (yMove rfl) rfl ?_)
              refine lGY rfl rfl rfl (oV (yMove rfl) rfl ?_)
              refine lGY rfl rfl rfl (oV (yNeq rfl rfl) rfl ?_)
              refine lGY rfl rfl rfl (oV (yPickT rfl rfl) rfl ?_)
              refine lV (yPickF rfl rfl) rfl rfl ?_
              refine lNil ?_
              refine kThen ?_
              refine split (t := 83) rfl (fun h83 => ?_) (fun h83 => ?_)
              · refine kIfT rfl ?_
                refine kExit ?_
                refine kThenX ?_
                refine kInX ?_
                refine kThen ?_
                have hround : φ (A.length + (ptW s r n x z (i + 1)).length) C := by
                  first
                    | exact hC
                    | (rw [ptW_succ, brW_neg (by unfold okW; rw [hold, ← hown]; omega), List.append_nil]; exact hC)
                refine kRegion rfl ?_
                refine lV (yAdd rfl rfl (by omega)) rfl rfl ?_
                refine lV (yMove rfl) rfl rfl ?_
                refine lNil ?_
                exact kRoundX (i + 1, C, xq) (⟨by dsimp only; omega, hround, hxq⟩) (by dsimp only; omega) rfl (.c rfl .n) (.c rfl (.c rfl (.c rfl (.c rfl (.c rfl (.c rfl (.c rfl (.c rfl (.c rfl (.c rfl (.c rfl (.c rfl (.c rfl (.c rfl (.c rfl (.c rfl .n)))))))))))))))) .r
              · refine kIfF rfl ?_
                refine kSkip ?_
                refine kThen ?_
                refine kSeq ?_
                have hok : okW s x z n i := by
                  unfold okW
                  rw [hold, ← hown]
                  constructor <;> omega
                refine kRegion rfl ?_
                refine lV (yMove rfl) rfl rfl ?_
                refine lV (yMove rfl) rfl rfl ?_
                refine lV (yMove rfl) rfl rfl ?_
                refine lV (yMove rfl) rfl rfl ?_
                refine lV (yMove rfl) rfl rfl ?_
                refine lV (yMax rfl rfl) rfl rfl ?_
                refine same (t := 89) (u := i64 (max (oldZ z n i) (s.zs.getD n 0))) rfl (by first | (rw [hold, hown]; done) | (rw [hold, hown, hzi (by omega)])) ?_
                refine lV (yIndexN rfl rfl R61 ((by omega))) rfl rfl ?_
                refine lE rfl ?_
                refine eStoreL 0 rfl rfl rfl rfl K3 rfl (wFits xq (by omega)) ?_
                refine lV (yIndexN rfl rfl R61 ((by omega))) rfl rfl ?_
                refine lE rfl ?_
                refine eStoreL 1 rfl rfl rfl rfl K3 rfl (wFits z (by omega)) ?_
                refine lNil ?_
                rw [wWr xq (by omega), wWr z (by omega), hxq]
                refine kThen ?_
                refine kSeq ?_
                refine kRegion rfl ?_
                refine lV (yLoad1 rfl O115 (cOwn 3 rfl rfl)) rfl rfl ?_
                refine lV (yLoadA (vs := [_, _, _, _, _, _, _, _]) rfl A61 (cOwn 0 rfl rfl)) rfl rfl ?_
                refine lV (yMove rfl) rfl rfl ?_
                refine lV (yAdd rfl rfl (by omega)) rfl rfl ?_
                refine lE rfl ?_
                skip
                obtain ⟨B1, hB1⟩ := ptW_pre s r n x z (show i + 1 ≤ n + 1 by omega)
                have hih := ih (n + 1) (wUp x n (i : Nat)) (wUp z i (max (oldZ z n i) (s.zs.getD n 0))) (A ++ ptW s r n x z i) (B1 ++ B) C ((n6, blk (wC (wUp x n (i : Nat))) 61) :: Z)
                refine eCallE (φ := fun C' => φ (A.length + (ptW s r n x z (i + 1)).length) C') (v := fun _ => .bool true) (L' := fun C' => (n6, blk (wC (wUp x n (i : Nat))) 61) :: (onH nz ny nf na l (wUp z i (max (oldZ z n i) (s.zs.getD n 0))) ++ (naH nS na ++ (C' ++ Z)))) rfl (.c rfl (.c rfl .n)) C58 (fun w hw => ?_) fun C hC => ?_
                · refine (hih w (by omega) (fun j hj => by rw [wUp_ne _ _ (by omega)]; exact hz j (by omega)) (by rw [List.length_append]; exact hC) (by rw [hv, ptW_all, hB1, ptW_succ, brW_pos hok]; simp only [List.append_assoc]) (hw.perm (permP _ [_, _, _, _] C Z))).mono fun e w' h => ?_
                  obtain ⟨C', h1, h2, h3⟩ := h
                  exact ⟨C', by rw [ptW_succ, List.length_append, brW_pos hok, ← Nat.add_assoc]; rw [List.length_append] at h1; exact h1, h2, h3.perm (permP _ [_, _, _, _] C' Z).symm⟩
                obtain ⟨xq, hxq'⟩ : ∃ q, q = wUp x n (i : Nat) := ⟨_, rfl⟩
                rw [← hxq']
                have hxq : ∀ v, wUp xq n v = wUp x n v := fun v => by rw [hxq', wUp_up]
                refine lV (yAssign rfl) rfl rfl ?_
                refine lNil ?_
                refine kThen ?_
                refine kSeq ?_
                refine kRegion rfl ?_
                refine lV (yMove rfl) rfl rfl ?_
                refine lV (yMove rfl) rfl rfl ?_
                refine lV (yIndexN rfl rfl R61 ((by omega))) rfl rfl ?_
                refine lE rfl ?_
                refine eStoreL 1 rfl rfl rfl rfl K3 rfl (wFits _ (by omega)) ?_
                refine lNil ?_
                rw [wWr _ (by omega), wUp_up]
                first | rw [wUp_self] | rw [show wUp z i 0 = z from by have := wUp_self z i; rwa [hzi (by omega)] at this]
                refine kThen ?_
                refine kSeq ?_
                refine kRegion rfl ?_
                refine lV (yMove rfl) rfl rfl ?_
                refine lV (yNot rfl) rfl rfl ?_
                refine lNil ?_
                refine kThen ?_
                refine kIfF rfl ?_
                refine kSkip ?_
                refine kInN ?_
                refine kThen ?_
                have hround : φ (A.length + (ptW s r n x z (i + 1)).length) C := by
                  first
                    | exact hC
                    | (rw [ptW_succ, brW_neg (by unfold okW; rw [hold, ← hown]; omega), List.append_nil]; exact hC)
                refine kRegion rfl ?_
                refine lV (yAdd rfl rfl (by omega)) rfl rfl ?_
                refine lV (yMove rfl) rfl rfl ?_
                refine lNil ?_
                exact kRoundX (i + 1, C, xq) (⟨by dsimp only; omega, hround, hxq⟩) (by dsimp only; omega) rfl (.c rfl .n) (.c rfl (.c rfl (.c rfl (.c rfl (.c rfl (.c rfl (.c rfl (.c rfl (.c rfl (.c rfl (.c rfl (.c rfl (.c rfl (.c rfl (.c rfl (.c rfl .n)))))))))))))))) .r
            · refine lGN rfl rfl rfl rfl rfl ?_
              refine lGN rfl rfl rfl rfl rfl ?_
              refine lGN rfl rfl rfl rfl rfl ?_
              refine lGY rfl rfl rfl (oV (yPickF rfl rfl) rfl ?_)
              refine lV (yPickF rfl rfl) rfl rfl ?_
              refine lNil ?_
              refine kThen ?_
              refine kIfF rfl ?_
              refine kSkip ?_
              refine kThen ?_
              refine kSeq ?_
              have hok : okW s x z n i := by
                unfold okW
                rw [hold, ← hown]
                constructor <;> omega
              refine kRegion rfl ?_
              refine lV (yMove rfl) rfl rfl ?_
              refine lV (yMove rfl) rfl rfl ?_
              refine lV (yMove rfl) rfl rfl ?_
              refine lV (yMove rfl) rfl rfl ?_
              refine lV (yMove rfl) rfl rfl ?_
              refine lV (yMax rfl rfl) rfl rfl ?_
              refine same (t := 89) (u := i64 (max (oldZ z n i) (s.zs.getD n 0))) rfl (by first | (rw [hold, hown]; done) | (rw [hold, hown, hzi (by omega)])) ?_
              refine lV (yIndexN rfl rfl R61 ((by omega))) rfl rfl ?_
              refine lE rfl ?_
              refine eStoreL 0 rfl rfl rfl rfl K3 rfl (wFits xq (by omega)) ?_
              refine lV (yIndexN rfl rfl R61 ((by omega))) rfl rfl ?_
              refine lE rfl ?_
              refine eStoreL 1 rfl rfl rfl rfl K3 rfl (wFits z (by omega)) ?_
              refine lNil ?_
              rw [wWr xq (by omega), wWr z (by omega), hxq]
              refine kThen ?_
              refine kSeq ?_
              refine kRegion rfl ?_
              refine lV (yLoad1 rfl O115 (cOwn 3 rfl rfl)) rfl rfl ?_
              refine lV (yLoadA (vs := [_, _, _, _, _, _, _, _]) rfl A61 (cOwn 0 rfl rfl)) rfl rfl ?_
              refine lV (yMove rfl) rfl rfl ?_
              refine lV (yAdd rfl rfl (by omega)) rfl rfl ?_
              refine lE rfl ?_
              skip
              obtain ⟨B1, hB1⟩ := ptW_pre s r n x z (show i + 1 ≤ n + 1 by omega)
              have hih := ih (n + 1) (wUp x n (i : Nat)) (wUp z i (max (oldZ z n i) (s.zs.getD n 0))) (A ++ ptW s r n x z i) (B1 ++ B) C ((n6, blk (wC (wUp x n (i : Nat))) 61) :: Z)
              refine eCallE (φ := fun C' => φ (A.length + (ptW s r n x z (i + 1)).length) C') (v := fun _ => .bool true) (L' := fun C' => (n6, blk (wC (wUp x n (i : Nat))) 61) :: (onH nz ny nf na l (wUp z i (max (oldZ z n i) (s.zs.getD n 0))) ++ (naH nS na ++ (C' ++ Z)))) rfl (.c rfl (.c rfl .n)) C58 (fun w hw => ?_) fun C hC => ?_
              · refine (hih w (by omega) (fun j hj => by rw [wUp_ne _ _ (by omega)]; exact hz j (by omega)) (by rw [List.length_append]; exact hC) (by rw [hv, ptW_all, hB1, ptW_succ, brW_pos hok]; simp only [List.append_assoc]) (hw.perm (permP _ [_, _, _, _] C Z))).mono fun e w' h => ?_
                obtain ⟨C', h1, h2, h3⟩ := h
                exact ⟨C', by rw [ptW_succ, List.length_append, brW_pos hok, ← Nat.add_assoc]; rw [List.length_append] at h1; exact h1, h2, h3.perm (permP _ [_, _, _, _] C' Z).symm⟩
              obtain ⟨xq, hxq'⟩ : ∃ q, q = wUp x n (i : Nat) := ⟨_, rfl⟩
              rw [← hxq']
              have hxq : ∀ v, wUp xq n v = wUp x n v := fun v => by rw [hxq', wUp_up]
              refine lV (yAssign rfl) rfl rfl ?_
              refine lNil ?_
              refine kThen ?_
              refine kSeq ?_
              refine kRegion rfl ?_
              refine lV (yMove rfl) rfl rfl ?_
              refine lV (yMove rfl) rfl rfl ?_
              refine lV (yIndexN rfl rfl R61 ((by omega))) rfl rfl ?_
              refine lE rfl ?_
              refine eStoreL 1 rfl rfl rfl rfl K3 rfl (wFits _ (by omega)) ?_
              refine lNil ?_
              rw [wWr _ (by omega), wUp_up]
              first | rw [wUp_self] | rw [show wUp z i 0 = z from by have := wUp_self z i; rwa [hzi (by omega)] at this]
              refine kThen ?_
              refine kSeq ?_
              refine kRegion rfl ?_
              refine lV (yMove rfl) rfl rfl ?_
              refine lV (yNot rfl) rfl rfl ?_
              refine lNil ?_
              refine kThen ?_
              refine kIfF rfl ?_
              refine kSkip ?_
              refine kInN ?_
              refine kThen ?_
              have hround : φ (A.length + (ptW s r n x z (i + 1)).length) C := by
                first
                  | exact hC
                  | (rw [ptW_succ, brW_neg (by unfold okW; rw [hold, ← hown]; omega), List.append_nil]; exact hC)
              refine kRegion rfl ?_
              refine lV (yAdd rfl rfl (by omega)) rfl rfl ?_
              refine lV (yMove rfl) rfl rfl ?_
              refine lNil ?_
              exact kRoundX (i + 1, C, xq) (⟨by dsimp only; omega, hround, hxq⟩) (by dsimp only; omega) rfl (.c rfl .n) (.c rfl (.c rfl (.c rfl (.c rfl (.c rfl (.c rfl (.c rfl (.c rfl (.c rfl (.c rfl (.c rfl (.c rfl (.c rfl (.c rfl (.c rfl (.c rfl .n)))))))))))))))) .r
          · refine lGN rfl rfl rfl rfl rfl ?_
            refine lGN rfl rfl rfl rfl rfl ?_
            refine lGY rfl rfl rfl (oV (yPickF rfl rfl) rfl ?_)
            refine lGY rfl rfl rfl (oV (yMove rfl) rfl ?_)
            refine lGN rfl rfl rfl rfl rfl ?_
            refine lGN rfl rfl rfl rfl rfl ?_
            refine lGN rfl rfl rfl rfl rfl ?_
            refine lGY rfl rfl rfl (oV (yPickF rfl rfl) rfl ?_)
            refine lV (yPickF rfl rfl) rfl rfl ?_
            refine lNil ?_
            refine kThen ?_
            refine kIfF rfl ?_
            refine kSkip ?_
            refine kThen ?_
            refine kSeq ?_
            have hok : okW s x z n i := by
              unfold okW
              rw [hold, ← hown]
              constructor <;> omega
            refine kRegion rfl ?_
            refine lV (yMove rfl) rfl rfl ?_
            refine lV (yMove rfl) rfl rfl ?_
            refine lV (yMove rfl) rfl rfl ?_
            refine lV (yMove rfl) rfl rfl ?_
            refine lV (yMove rfl) rfl rfl ?_
            refine lV (yMax rfl rfl) rfl rfl ?_
            refine same (t := 89) (u := i64 (max (oldZ z n i) (s.zs.getD n 0))) rfl (by first | (rw [hold, hown]; done) | (rw [hold, hown, hzi (by omega)])) ?_
            refine lV (yIndexN rfl rfl R61 ((by omega))) rfl rfl ?_
            refine lE rfl ?_
            refine eStoreL 0 rfl rfl rfl rfl K3 rfl (wFits xq (by omega)) ?_
            refine lV (yIndexN rfl rfl R61 ((by omega))) rfl rfl ?_
            refine lE rfl ?_
            refine eStoreL 1 rfl rfl rfl rfl K3 rfl (wFits z (by omega)) ?_
            refine lNil ?_
            rw [wWr xq (by omega), wWr z (by omega), hxq]
            refine kThen ?_
            refine kSeq ?_
            refine kRegion rfl ?_
            refine lV (yLoad1 rfl O115 (cOwn 3 rfl rfl)) rfl rfl ?_
            refine lV (yLoadA (vs := [_, _, _, _, _, _, _, _]) rfl A61 (cOwn 0 rfl rfl)) rfl rfl ?_
            refine lV (yMove rfl) rfl rfl ?_
            refine lV (yAdd rfl rfl (by omega)) rfl rfl ?_
            refine lE rfl ?_
            skip
            obtain ⟨B1, hB1⟩ := ptW_pre s r n x z (show i + 1 ≤ n + 1 by omega)
            have hih := ih (n + 1) (wUp x n (i : Nat)) (wUp z i (max (oldZ z n i) (s.zs.getD n 0))) (A ++ ptW s r n x z i) (B1 ++ B) C ((n6, blk (wC (wUp x n (i : Nat))) 61) :: Z)
            refine eCallE (φ := fun C' => φ (A.length + (ptW s r n x z (i + 1)).length) C') (v := fun _ => .bool true) (L' := fun C' => (n6, blk (wC (wUp x n (i : Nat))) 61) :: (onH nz ny nf na l (wUp z i (max (oldZ z n i) (s.zs.getD n 0))) ++ (naH nS na ++ (C' ++ Z)))) rfl (.c rfl (.c rfl .n)) C58 (fun w hw => ?_) fun C hC => ?_
            · refine (hih w (by omega) (fun j hj => by rw [wUp_ne _ _ (by omega)]; exact hz j (by omega)) (by rw [List.length_append]; exact hC) (by rw [hv, ptW_all, hB1, ptW_succ, brW_pos hok]; simp only [List.append_assoc]) (hw.perm (permP _ [_, _, _, _] C Z))).mono fun e w' h => ?_
              obtain ⟨C', h1, h2, h3⟩ := h
              exact ⟨C', by rw [ptW_succ, List.length_append, brW_pos hok, ← Nat.add_assoc]; rw [List.length_append] at h1; exact h1, h2, h3.perm (permP _ [_, _, _, _] C' Z).symm⟩
            obtain ⟨xq, hxq'⟩ : ∃ q, q = wUp x n (i : Nat) := ⟨_, rfl⟩
            rw [← hxq']
            have hxq : ∀ v, wUp xq n v = wUp x n v := fun v => by rw [hxq', wUp_up]
            refine lV (yAssign rfl) rfl rfl ?_
            refine lNil ?_
            refine kThen ?_
            refine kSeq ?_
            refine kRegion rfl ?_
            refine lV (yMove rfl) rfl rfl ?_
            refine lV (yMove rfl) rfl rfl ?_
            refine lV (yIndexN rfl rfl R61 ((by omega))) rfl rfl ?_
            refine lE rfl ?_
            refine eStoreL 1 rfl rfl rfl rfl K3 rfl (wFits _ (by omega)) ?_
            refine lNil ?_
            rw [wWr _ (by omega), wUp_up]
            first | rw [wUp_self] | rw [show wUp z i 0 = z from by have := wUp_self z i; rwa [hzi (by omega)] at this]
            refine kThen ?_
            refine kSeq ?_
            refine kRegion rfl ?_
            refine lV (yMove rfl) rfl rfl ?_
            refine lV (yNot rfl) rfl rfl ?_
            refine lNil ?_
            refine kThen ?_
            refine kIfF rfl ?_
            refine kSkip ?_
            refine kInN ?_
            refine kThen ?_
            have hround : φ (A.length + (ptW s r n x z (i + 1)).length) C := by
              first
                | exact hC
                | (rw [ptW_succ, brW_neg (by unfold okW; rw [hold, ← hown]; omega), List.append_nil]; exact hC)
            refine kRegion rfl ?_
            refine lV (yAdd rfl rfl (by omega)) rfl rfl ?_
            refine lV (yMove rfl) rfl rfl ?_
            refine lNil ?_
            exact kRoundX (i + 1, C, xq) (⟨by dsimp only; omega, hround, hxq⟩) (by dsimp only; omega) rfl (.c rfl .n) (.c rfl (.c rfl (.c rfl (.c rfl (.c rfl (.c rfl (.c rfl (.c rfl (.c rfl (.c rfl (.c rfl (.c rfl (.c rfl (.c rfl (.c rfl (.c rfl .n)))))))))))))))) .r
    · refine kIfF rfl ?_
      refine kExit ?_
      refine kThenX ?_
      refine kThenX ?_
      refine kInX ?_
      refine kThen ?_
      refine kSeq ?_
      refine kRegion rfl ?_
      refine lV (yAssign rfl) rfl rfl ?_
      refine lNil ?_
      refine kThen ?_
      refine kRet ?_
      refine fRet rfl (.t rfl .n) ?_
      exact fun w' hw' => ⟨C, by obtain rfl : i = n + 1 := (by omega); rw [ptW_all]; exact hC, rfl, hw'.sub (.k rfl .r)⟩
end
end Go.Proofs.Ytdpeifbejeflhaa
