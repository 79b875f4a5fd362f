/-
  Walks: a plate that is truly made.
-/
import Derived.Test.YtlcdohhhhlhpmaaIc
namespace Go.Proofs.Ytlcdohhhhlhpmaa
open ZW

set_option maxHeartbeats 8000000 in
set_option maxRecDepth 100000 in
theorem made_any (nb nc : Nat) (a : Option Addr) (c : Nat) (l : List Nat) (w : World) (hb : w.heap[nb]? = some (blk [i64 0] 3)) (hd : DrawIn w nb nc a c l) (ho : DrawOk nb nc a l) :
    Calls Try.prog 35 [drawF nb nc].toArray w
      (RetX w MadeOk (fun x => .tuple [.agg (pltC (osA x.g1, osC x.g1) ⟨x.lh, x.st⟩).toArray, i64 x.s, .agg [i64 x.c.1, i64 x.c.2].toArray, osV x.g2 (x.im.map rowE).length, osV x.g3 (x.sk.map rowE).length].toArray) (fun x => [(nb, blk [i64 (x.k : Nat)] 3), (nc, blk [.slice a l.length c] 43)]) (fun x => E3 x.g1 x.g2 x.g3)) := by
  have hc := hd.box
  have lb := blk_lt hb
  have lc := blk_lt hc
  have la := sl_lt hd.s ho.pos
  have hdr : ∀ {k : Nat} {n : Int} {L : Heap} {o : Obj} {w' : World}, Eff w [(nb, o), (nc, blk [.slice a l.length c] 43)] L w' → w'.heap[nb]? = some (blk [i64 (k : Nat)] 3) → k < 100000 → 0 < n →
      Calls Try.prog 92 [i64 n, .pointer (some ⟨nb, 0, none⟩), .pointer (some ⟨nc, 0, none⟩)].toArray w' (Wr w' nb (blk [i64 ((k + 1 : Nat) : Int)] 3) (i64 (drawI l (k + 1) n))) :=
    fun hw hb hk hn => draw1_any nb nc a c l _ _ _ hb ⟨hw.blkAt 1 rfl, hd.s.eff hw (mne ho.na ho.nc)⟩ ho hk hn
  have h8 : ∀ {k : Nat} {L : Heap} {o : Obj} {w' : World}, Eff w [(nb, o), (nc, blk [.slice a l.length c] 43)] L w' → w'.heap[nb]? = some (blk [i64 (k : Nat)] 3) → k < 100000 →
      Calls Try.prog 92 [i64 8, .pointer (some ⟨nb, 0, none⟩), .pointer (some ⟨nc, 0, none⟩)].toArray w' (Wr w' nb (blk [i64 ((k + 1 : Nat) : Int)] 3) (i64 (drawI l (k + 1) 8))) := fun hw hb hk => hdr hw hb hk (by decide)
  refine fEnterM (Eff.two hb hc ho.ne) Try.func35 rfl Try.ntmps35 rfl ?_
  refine kSeq ?_
  refine kRegion rfl ?_
  refine lE rfl ?_
  refine eBox1 rfl rfl fun n1 => ?_
  refine lE rfl ?_
  refine eAlloc Z26 fun n2 => ?_
  refine lV (yAssign rfl) rfl rfl ?_
  refine lE rfl ?_
  refine eAlloc Z45 fun n4 => ?_
  refine lV (yAssign rfl) rfl rfl ?_
  refine lV (yAssign rfl) rfl rfl ?_
  refine lNil ?_
  refine kThen ?_
  refine kSeq ?_
  refine kRegion rfl ?_
  refine lV (yLoad1 rfl O49 (cOwn 4 rfl rfl)) rfl rfl ?_
  refine lE rfl ?_
  refine eCallWM 0 rfl rfl (.c rfl .n) C92 (fun w hw hb => hdr (k := 0) (n := 960) hw hb (by omega) (by omega)) ?_
  obtain ⟨d0, ed0, bd0⟩ : ∃ d, drawI l (0 + 1) 960 = d ∧ 0 ≤ d ∧ d < 960 := ⟨_, rfl, draw_bd _ _ (by omega)⟩
  rw [ed0]
  refine lV (yAdd rfl rfl (by omega)) rfl rfl ?_
  refine lV (yAssign rfl) rfl rfl ?_
  refine lNil ?_
  refine kThen ?_
  refine kSeq ?_
  have b1 := draw_bd l (0 + 1 + 1) (n := 20) (by omega)
  have b2 := draw_bd l (0 + 1 + 1 + 1) (n := 20) (by omega)
  have b3 := draw_bd l (0 + 1 + 1 + 1 + 1) (n := 20000) (by omega)
  have b4 := draw_bd l (0 + 1 + 1 + 1 + 1 + 1) (n := 20000) (by omega)
  refine kCutX (ι := Unit) (fun _ => True) (fun _ => []) [(1, _), (2, _), (3, _), (4, _), (5, _), (6, _)] (fun _ => [(nb, blk [i64 ((0 + 1 + 1 + 1) : Nat)] 3), (nc, blk [.slice a l.length c] 43)]) (fun _ => [(n2, blk [i64 (20 + d0 - drawI l (0 + 1 + 1) 20), i64 (20 + d0 + drawI l (0 + 1 + 1 + 1) 20), .slice none 0 0] 26)]) [(n4, _), (n1, _)] (.c rfl (.c rfl (.c rfl (.c rfl (.c rfl (.c rfl .n)))))) (.c 0 rfl (.c 1 rfl .n)) ?_ (fun u2 _ => ?_)
  · refine kDrawE [(1, none)] [(5, (fun w => w.heap[n1]? = some (blk [drawF nb nc] 49)))] [0, 1, 4, 5, 9] 6 hMix (by kernel_rfl) ?_
    refine .run rfl (yMove rfl) rfl rfl ?_
    refine .run rfl (yLoad1 rfl O49 (cOwn 4 rfl rfl)) rfl rfl ?_
    refine .run rfl (yMove rfl) rfl rfl ?_
    refine .run rfl (yLoad1 rfl O49 (cHeap rfl)) rfl rfl ?_
    refine .run rfl (yFieldAddr rfl F26_0) rfl rfl ?_
    refine .done ?_
    refine effStep 2 [] (by kernel_rfl) closedSt (hLeft [1, 5] (by kernel_rfl) (.c (fun _ _ hs => hs.ef) (.c (fun _ _ hs => by first | exact hs.ef.blkAt 2 rfl | exact hs.ef.blkAt 3 rfl | exact hs.ef.blkAt 4 rfl | exact hs.ef.blkAt 5 rfl | exact hs.ef.blkAt 6 rfl | exact hs.ef.blkAt 7 rfl | exact hs.ef.blkAt 8 rfl) .n))) ?_
    refine .c ?_ .n
    refine effOne rfl (gNone rfl (eCallWM 0 rfl rfl (.c rfl .n) C92 (fun w hw hb => hdr (k := (0 + 1)) (n := 20) hw hb (by omega) (by omega)) trSelf)) ?_
    refine effStep 3 [6] (by kernel_rfl) closedSt (hLeft [5] (by kernel_rfl) (.c (fun _ _ hs => by first | exact hs.ef.blkAt 2 rfl | exact hs.ef.blkAt 3 rfl | exact hs.ef.blkAt 4 rfl | exact hs.ef.blkAt 5 rfl | exact hs.ef.blkAt 6 rfl | exact hs.ef.blkAt 7 rfl | exact hs.ef.blkAt 8 rfl) .n)) ?_
    refine (.c ?_ (.c ?_ .n))
    · refine effOne rfl (gNone rfl (fV (ySub rfl rfl (by omega)) rfl)) ?_
      refine effStep 6 [] (by kernel_rfl) closedSt (hLeft [5] (by kernel_rfl) (.c (fun _ _ hs => by first | exact hs.ef.blkAt 2 rfl | exact hs.ef.blkAt 3 rfl | exact hs.ef.blkAt 4 rfl | exact hs.ef.blkAt 5 rfl | exact hs.ef.blkAt 6 rfl | exact hs.ef.blkAt 7 rfl | exact hs.ef.blkAt 8 rfl) .n)) ?_
      refine .c ?_ .n
      refine effOne rfl (gNone rfl (eCallWM 0 rfl rfl (.c rfl .n) C92 (fun w hw hb => hdr (k := (0 + 1 + 1)) (n := 20) hw hb (by omega) (by omega)) trSelf)) ?_
      refine effStep 7 [] (by kernel_rfl) closedSt (hLeft [] (by kernel_rfl) .n) ?_
      refine .c ?_ .n
      refine effOne rfl (gNone rfl (fV (yAdd rfl rfl (by omega)) rfl)) ?_
      refine effStep 8 [] (by kernel_rfl) closedSt (hLeft [] (by kernel_rfl) .n) ?_
      refine .c ?_ .n
      refine effOne rfl (gNone rfl (fV (yCall rfl (.c rfl (.c rfl .n)) C34 (fun w hw => spanL_any _ _ w)) rfl)) ?_
      refine effStep 10 [] (by kernel_rfl) closedSt (hLeft [] (by kernel_rfl) .n) ?_
      refine .c ?_ .n
      refine effOne rfl (gNone rfl (fStoreL 1 rfl rfl rfl rfl K23 rfl (rfl))) ?_
      refine effDone closedSt (hLeft [] (by kernel_rfl) .n) (by kernel_rfl) ?_
      exact kMeetX (()) (by simp) rfl .n (.c rfl (.c rfl (.c rfl (.c rfl (.c rfl (.c rfl .n)))))) (.c 0 rfl (.c 1 rfl (.c 0 rfl .n)))
    · refine effOne rfl (gNone rfl (eCallWM 0 rfl rfl (.c rfl .n) C92 (fun w hw hb => hdr (k := (0 + 1 + 1)) (n := 20) hw hb (by omega) (by omega)) trSelf)) ?_
      refine effStep 3 [7] (by kernel_rfl) closedSt (hLeft [] (by kernel_rfl) .n) ?_
      refine (.c ?_ (.c ?_ .n))
      · refine effOne rfl (gNone rfl (fV (ySub rfl rfl (by omega)) rfl)) ?_
        refine effStep 7 [] (by kernel_rfl) closedSt (hLeft [] (by kernel_rfl) .n) ?_
        refine .c ?_ .n
        refine effOne rfl (gNone rfl (fV (yAdd rfl rfl (by omega)) rfl)) ?_
        refine effStep 8 [] (by kernel_rfl) closedSt (hLeft [] (by kernel_rfl) .n) ?_
        refine .c ?_ .n
        refine effOne rfl (gNone rfl (fV (yCall rfl (.c rfl (.c rfl .n)) C34 (fun w hw => spanL_any _ _ w)) rfl)) ?_
        refine effStep 10 [] (by kernel_rfl) closedSt (hLeft [] (by kernel_rfl) .n) ?_
        refine .c ?_ .n
        refine effOne rfl (gNone rfl (fStoreL 1 rfl rfl rfl rfl K23 rfl (rfl))) ?_
        refine effDone closedSt (hLeft [] (by kernel_rfl) .n) (by kernel_rfl) ?_
        exact kMeetX (()) (by simp) rfl .n (.c rfl (.c rfl (.c rfl (.c rfl (.c rfl (.c rfl .n)))))) (.c 0 rfl (.c 1 rfl (.c 0 rfl .n)))
      · refine effOne rfl (gNone rfl (fV (yAdd rfl rfl (by omega)) rfl)) ?_
        refine effStep 3 [] (by kernel_rfl) closedSt (hLeft [] (by kernel_rfl) .n) ?_
        refine .c ?_ .n
        refine effOne rfl (gNone rfl (fV (ySub rfl rfl (by omega)) rfl)) ?_
        refine effStep 8 [] (by kernel_rfl) closedSt (hLeft [] (by kernel_rfl) .n) ?_
        refine .c ?_ .n
        refine effOne rfl (gNone rfl (fV (yCall rfl (.c rfl (.c rfl .n)) C34 (fun w hw => spanL_any _ _ w)) rfl)) ?_
        refine effStep 10 [] (by kernel_rfl) closedSt (hLeft [] (by kernel_rfl) .n) ?_
        refine .c ?_ .n
        refine effOne rfl (gNone rfl (fStoreL 1 rfl rfl rfl rfl K23 rfl (rfl))) ?_
        refine effDone closedSt (hLeft [] (by kernel_rfl) .n) (by kernel_rfl) ?_
        exact kMeetX (()) (by simp) rfl .n (.c rfl (.c rfl (.c rfl (.c rfl (.c rfl (.c rfl .n)))))) (.c 0 rfl (.c 1 rfl (.c 0 rfl .n)))
  · refine kSeq ?_
    refine kCutX (ι := Unit) (fun _ => True) (fun _ => []) [(1, _), (2, _), (3, _), (4, _), (5, _), (6, _)] (fun _ => [(nb, blk [i64 ((0 + 1 + 1 + 1 + 1 + 1) : Nat)] 3), (nc, blk [.slice a l.length c] 43)]) (fun _ => [(n4, blk [i64 (drawI l (0 + 1 + 1 + 1 + 1) 20000 - 10000), i64 (drawI l (0 + 1 + 1 + 1 + 1 + 1) 20000 - 10000)] 45)]) [(n1, _), (n2, _)] (.c rfl (.c rfl (.c rfl (.c rfl (.c rfl (.c rfl .n)))))) (.c 1 rfl (.c 1 rfl .n)) ?_ (fun u3 _ => ?_)
    · refine kDrawE [(0, none)] [(3, (fun w => w.heap[n1]? = some (blk [drawF nb nc] 49)))] [0, 3] 6 hMix (by kernel_rfl) ?_
      refine .run rfl (yLoad1 rfl O49 (cOwn 3 rfl rfl)) rfl rfl ?_
      refine .run rfl (yLoad1 rfl O49 (cHeap rfl)) rfl rfl ?_
      refine .done ?_
      refine effStep 1 [] (by kernel_rfl) closedSt (hLeft [0, 3] (by kernel_rfl) (.c (fun _ _ hs => hs.ef) (.c (fun _ _ hs => by first | exact hs.ef.blkAt 2 rfl | exact hs.ef.blkAt 3 rfl | exact hs.ef.blkAt 4 rfl | exact hs.ef.blkAt 5 rfl | exact hs.ef.blkAt 6 rfl | exact hs.ef.blkAt 7 rfl | exact hs.ef.blkAt 8 rfl) .n))) ?_
      refine .c ?_ .n
      refine effOne rfl (gNone rfl (eCallWM 0 rfl rfl (.c rfl .n) C92 (fun w hw hb => hdr (k := (0 + 1 + 1 + 1)) (n := 20000) hw hb (by omega) (by omega)) trSelf)) ?_
      refine effStep 2 [4] (by kernel_rfl) closedSt (hLeft [3] (by kernel_rfl) (.c (fun _ _ hs => by first | exact hs.ef.blkAt 2 rfl | exact hs.ef.blkAt 3 rfl | exact hs.ef.blkAt 4 rfl | exact hs.ef.blkAt 5 rfl | exact hs.ef.blkAt 6 rfl | exact hs.ef.blkAt 7 rfl | exact hs.ef.blkAt 8 rfl) .n)) ?_
      refine (.c ?_ (.c ?_ .n))
      · refine effOne rfl (gNone rfl (fV (ySub rfl rfl (by omega)) rfl)) ?_
        refine effStep 4 [] (by kernel_rfl) closedSt (hLeft [3] (by kernel_rfl) (.c (fun _ _ hs => by first | exact hs.ef.blkAt 2 rfl | exact hs.ef.blkAt 3 rfl | exact hs.ef.blkAt 4 rfl | exact hs.ef.blkAt 5 rfl | exact hs.ef.blkAt 6 rfl | exact hs.ef.blkAt 7 rfl | exact hs.ef.blkAt 8 rfl) .n)) ?_
        refine .c ?_ .n
        refine effOne rfl (gNone rfl (eCallWM 0 rfl rfl (.c rfl .n) C92 (fun w hw hb => hdr (k := (0 + 1 + 1 + 1 + 1)) (n := 20000) hw hb (by omega) (by omega)) trSelf)) ?_
        refine effStep 5 [] (by kernel_rfl) closedSt (hLeft [] (by kernel_rfl) .n) ?_
        refine .c ?_ .n
        refine effOne rfl (gNone rfl (fV (ySub rfl rfl (by omega)) rfl)) ?_
        refine effStep 6 [] (by kernel_rfl) closedSt (hLeft [] (by kernel_rfl) .n) ?_
        refine .c ?_ .n
        refine effOne rfl (gNone rfl (fV (yBuild (.c rfl (.c rfl .n)) (fun w => B45_0_1 w)) rfl)) ?_
        refine effStep 7 [] (by kernel_rfl) closedSt (hLeft [] (by kernel_rfl) .n) ?_
        refine .c ?_ .n
        refine effOne rfl (gNone rfl (fStoreL 0 rfl rfl rfl rfl K45 rfl (rfl))) ?_
        refine effDone closedSt (hLeft [] (by kernel_rfl) .n) (by kernel_rfl) ?_
        exact kMeetX (()) (by simp) rfl .n (.c rfl (.c rfl (.c rfl (.c rfl (.c rfl (.c rfl .n)))))) (.c 1 rfl (.c 1 rfl (.c 0 rfl .n)))
      · refine effOne rfl (gNone rfl (eCallWM 0 rfl rfl (.c rfl .n) C92 (fun w hw hb => hdr (k := (0 + 1 + 1 + 1 + 1)) (n := 20000) hw hb (by omega) (by omega)) trSelf)) ?_
        refine effStep 2 [5] (by kernel_rfl) closedSt (hLeft [] (by kernel_rfl) .n) ?_
        refine (.c ?_ (.c ?_ .n))
        · refine effOne rfl (gNone rfl (fV (ySub rfl rfl (by omega)) rfl)) ?_
          refine effStep 5 [] (by kernel_rfl) closedSt (hLeft [] (by kernel_rfl) .n) ?_
          refine .c ?_ .n
          refine effOne rfl (gNone rfl (fV (ySub rfl rfl (by omega)) rfl)) ?_
          refine effStep 6 [] (by kernel_rfl) closedSt (hLeft [] (by kernel_rfl) .n) ?_
          refine .c ?_ .n
          refine effOne rfl (gNone rfl (fV (yBuild (.c rfl (.c rfl .n)) (fun w => B45_0_1 w)) rfl)) ?_
          refine effStep 7 [] (by kernel_rfl) closedSt (hLeft [] (by kernel_rfl) .n) ?_
          refine .c ?_ .n
          refine effOne rfl (gNone rfl (fStoreL 0 rfl rfl rfl rfl K45 rfl (rfl))) ?_
          refine effDone closedSt (hLeft [] (by kernel_rfl) .n) (by kernel_rfl) ?_
          exact kMeetX (()) (by simp) rfl .n (.c rfl (.c rfl (.c rfl (.c rfl (.c rfl (.c rfl .n)))))) (.c 1 rfl (.c 1 rfl (.c 0 rfl .n)))
        · refine effOne rfl (gNone rfl (fV (ySub rfl rfl (by omega)) rfl)) ?_
          refine effStep 2 [] (by kernel_rfl) closedSt (hLeft [] (by kernel_rfl) .n) ?_
          refine .c ?_ .n
          refine effOne rfl (gNone rfl (fV (ySub rfl rfl (by omega)) rfl)) ?_
          refine effStep 6 [] (by kernel_rfl) closedSt (hLeft [] (by kernel_rfl) .n) ?_
          refine .c ?_ .n
          refine effOne rfl (gNone rfl (fV (yBuild (.c rfl (.c rfl .n)) (fun w => B45_0_1 w)) rfl)) ?_
          refine effStep 7 [] (by kernel_rfl) closedSt (hLeft [] (by kernel_rfl) .n) ?_
          refine .c ?_ .n
          refine effOne rfl (gNone rfl (fStoreL 0 rfl rfl rfl rfl K45 rfl (rfl))) ?_
          refine effDone closedSt (hLeft [] (by kernel_rfl) .n) (by kernel_rfl) ?_
          exact kMeetX (()) (by simp) rfl .n (.c rfl (.c rfl (.c rfl (.c rfl (.c rfl (.c rfl .n)))))) (.c 1 rfl (.c 1 rfl (.c 0 rfl .n)))
    · obtain ⟨d1, ed1⟩ : ∃ d, d = drawI l (0 + 1 + 1) 20 := ⟨_, rfl⟩
      obtain ⟨d2, ed2⟩ : ∃ d, d = drawI l (0 + 1 + 1 + 1) 20 := ⟨_, rfl⟩
      obtain ⟨c1, ec1⟩ : ∃ d, d = drawI l (0 + 1 + 1 + 1 + 1) 20000 - 10000 := ⟨_, rfl⟩
      obtain ⟨c2, ec2⟩ : ∃ d, d = drawI l (0 + 1 + 1 + 1 + 1 + 1) 20000 - 10000 := ⟨_, rfl⟩
      rw [← ed1, ← ed2, ← ec1, ← ec2]
      rw [← ed1] at b1
      rw [← ed2] at b2
      have b3' : -10000 ≤ c1 ∧ c1 ≤ 9999 := by omega
      have b4' : -10000 ≤ c2 ∧ c2 ≤ 9999 := by omega
      obtain ⟨s, es⟩ : ∃ s, s = 20 + d0 := ⟨_, rfl⟩
      rw [← es]
      have bs : 20 ≤ s ∧ s ≤ 979 := by omega
      clear b3 b4 ec1 ec2 ed1 ed2 es
      refine kSeq ?_
      refine kRegion rfl ?_
      refine lV (yMakeFunc .n (.c rfl .n)) rfl rfl ?_
      refine lV (yAssign rfl) rfl rfl ?_
      refine lNil ?_
      refine kThen ?_
      refine kSeq ?_
      refine kSeq ?_
      refine kRegion rfl ?_
      refine lV (yLoad1 rfl O49 (cOwn 2 rfl rfl)) rfl rfl ?_
      refine lE rfl ?_
      refine eCallWM 0 rfl rfl (.c rfl .n) C92 (fun w hw hb => hdr (k := (0 + 1 + 1 + 1 + 1 + 1)) (n := 11) hw hb (by omega) (by omega)) ?_
      obtain ⟨dn, edn, bdn⟩ : ∃ d, drawI l (0 + 1 + 1 + 1 + 1 + 1 + 1) 11 = d ∧ 0 ≤ d ∧ d < 11 := ⟨_, rfl, draw_bd _ _ (by omega)⟩
      rw [edn]
      refine lV (yMove rfl) rfl rfl ?_
      refine lNil ?_
      refine kThen ?_
      refine kBlock ?_
      refine kLoopX (ι := Nat × Nat × (Own × Own × Own) × List StarV × List (Int × Int) × List (Int × Int)) (fun x => (x.1 : Int) ≤ dn ∧ x.2.1 ≤ 6 + 11 * x.1 ∧ AllT s (c1, c2) x.2.2.2.1 x.2.2.2.2.1 x.2.2.2.2.2 x.1 ∧ OS 9 x.2.2.1.1 (x.2.2.2.1.map rowS) ∧ OS 2 x.2.2.1.2.1 (x.2.2.2.2.1.map rowE) ∧ OS 2 x.2.2.1.2.2 (x.2.2.2.2.2.map rowE)) (fun x => [(34, i64 (x.1 : Nat)), (5, osV x.2.2.1.2.1 (x.2.2.2.2.1.map rowE).length), (6, osV x.2.2.1.2.2 (x.2.2.2.2.2.map rowE).length)]) [(1, _), (2, _), (3, _), (4, _), (7, _), (33, _)] (fun x => [(nb, blk [i64 (x.2.1 : Nat)] 3), (nc, blk [.slice a l.length c] 43)]) (fun x => ([(n2, blk [i64 (s - d1), i64 (s + d2), osV x.2.2.1.1 (x.2.2.2.1.map rowS).length] 26)] ++ ((osL 58 x.2.2.1.1 ++ osL 45 x.2.2.1.2.1) ++ osL 45 x.2.2.1.2.2))) [(n1, _), (n4, _)] (fun x => dn.toNat - x.1) (0, 0 + 1 + 1 + 1 + 1 + 1 + 1, (.e none, .e none, .e none), [], [], []) (⟨by dsimp only; omega, by dsimp only; omega, ⟨rfl, rfl, rfl, fun i hi => absurd hi (by omega)⟩, OS.empty, OS.empty, OS.empty⟩) rfl (.c rfl (.c rfl (.c rfl .n))) (.c rfl (.c rfl (.c rfl (.c rfl (.c rfl (.c rfl .n)))))) (.c 0 rfl (.c 1 rfl (.c 0 rfl .n))) ?_
      rintro ⟨i, k, ⟨g1, g2, g3⟩, st, im, sk⟩ ⟨hi, hk, hA, hg1, hg2, hg3⟩
      dsimp only at hi hk hA hg1 hg2 hg3 ⊢
      refine kSeq ?_
      refine kRegion rfl ?_
      refine lV (yLss rfl rfl) rfl rfl ?_
      refine lNil ?_
      refine kThen ?_
      refine kSeq ?_
      refine split (t := 35) rfl (fun h35 => ?_) (fun h35 => ?_)
      · refine kIfT rfl ?_
        refine kSkip ?_
        refine kThen ?_
        refine kSeq ?_
        refine kBlock ?_
        refine kSeq ?_
        have b5 := draw_bd l (k + 1) (n := 30000) (by omega)
        have b6 := draw_bd l (k + 1 + 1) (n := 30000) (by omega)
        have hk1 : k ≤ 6 + 11 * 11 := by omega
        have hmu1 : dn.toNat - (i + 1) < dn.toNat - i := by omega
        have hi10 : i ≤ 9 := by omega
        have hdn : ((i + 1 : Nat) : Int) ≤ dn := by omega
        refine kCutX (ι := Nat) (fun z => True) (fun z => [(8, .pointer (some ⟨z, 0, none⟩))]) [(1, _), (2, _), (3, _), (4, _), (5, _), (6, _), (7, _), (33, _), (34, _)] (fun z => [(nb, blk [i64 ((k + 1 + 1) : Nat)] 3), (nc, blk [.slice a l.length c] 43)]) (fun z => ([(z, blk [i64 (drawI l (k + 1) 30000), i64 (drawI l (k + 1 + 1) 30000)] 45)] ++ ((osL 58 g1 ++ osL 45 g2) ++ osL 45 g3))) [(n1, _), (n4, _), (n2, _)] (.c rfl (.c rfl (.c rfl (.c rfl (.c rfl (.c rfl (.c rfl (.c rfl (.c rfl .n))))))))) (.c 0 rfl (.c 0 rfl (.c 0 rfl .n))) ?_ (fun n8 _ => ?_)
        · refine kDrawE [(0, none)] [(2, (fun w => w.heap[n1]? = some (blk [drawF nb nc] 49)))] [0, 2] 5 hMix (by kernel_rfl) ?_
          refine .run rfl (yLoad1 rfl O49 (cOwn 2 rfl rfl)) rfl rfl ?_
          refine .run rfl (yLoad1 rfl O49 (cHeap rfl)) rfl rfl ?_
          refine .done ?_
          refine effStep 1 [5] (by kernel_rfl) closedSt (hLeft [0, 2] (by kernel_rfl) (.c (fun _ _ hs => hs.ef) (.c (fun _ _ hs => by first | exact hs.ef.blkAt 2 rfl | exact hs.ef.blkAt 3 rfl | exact hs.ef.blkAt 4 rfl | exact hs.ef.blkAt 5 rfl | exact hs.ef.blkAt 6 rfl | exact hs.ef.blkAt 7 rfl | exact hs.ef.blkAt 8 rfl) .n))) ?_
          refine (.c ?_ (.c ?_ .n))
          · refine effOne rfl (gNone rfl (eCallWM 0 rfl rfl (.c rfl .n) C92 (fun w hw hb => hdr (k := k) (n := 30000) hw hb (by omega) (by omega)) trSelf)) ?_
            refine effStep 3 [5] (by kernel_rfl) closedSt (hLeft [2] (by kernel_rfl) (.c (fun _ _ hs => by first | exact hs.ef.blkAt 2 rfl | exact hs.ef.blkAt 3 rfl | exact hs.ef.blkAt 4 rfl | exact hs.ef.blkAt 5 rfl | exact hs.ef.blkAt 6 rfl | exact hs.ef.blkAt 7 rfl | exact hs.ef.blkAt 8 rfl) .n)) ?_
            refine (.c ?_ (.c ?_ .n))
            · refine effOne rfl (gNone rfl (eCallWM 0 rfl rfl (.c rfl .n) C92 (fun w hw hb => hdr (k := (k + 1)) (n := 30000) hw hb (by omega) (by omega)) trSelf)) ?_
              refine effStep 4 [5] (by kernel_rfl) closedSt (hLeft [] (by kernel_rfl) .n) ?_
              refine (.c ?_ (.c ?_ .n))
              · refine effOne rfl (gNone rfl (fV (yBuild (.c rfl (.c rfl .n)) (fun w => B45_0_1 w)) rfl)) ?_
                refine effStep 5 [] (by kernel_rfl) closedSt (hLeft [] (by kernel_rfl) .n) ?_
                refine .c ?_ .n
                refine effOne rfl (gNone rfl (fAlloc Z45)) ?_
                refine effStep 6 [] (by kernel_rfl) (closedEx fun n8 => closedSt) (hLeft [] (by kernel_rfl) .n) ?_
                refine .c ?_ .n
                refine effOne rfl (opEx fun n8 => (gNone rfl (fStoreL 0 rfl rfl rfl rfl K45 rfl (rfl)))) ?_
                refine effDone (closedEx fun n8 => closedSt) (hLeft [] (by kernel_rfl) .n) (by kernel_rfl) ?_
                refine trEx fun n8 => ?_
                exact kMeetX (n8) (trivial) rfl (.c rfl .n) (.c rfl (.c rfl (.c rfl (.c rfl (.c rfl (.c rfl (.c rfl (.c rfl (.c rfl .n))))))))) (.c 1 rfl (.c 1 rfl (.c 1 rfl (.c 0 rfl .r))))
              · refine effOne rfl (gNone rfl (fAlloc Z45)) ?_
                refine effStep 4 [] (by kernel_rfl) (closedEx fun n8 => closedSt) (hLeft [] (by kernel_rfl) .n) ?_
                refine .c ?_ .n
                refine effOne rfl (opEx fun n8 => (gNone rfl (fV (yBuild (.c rfl (.c rfl .n)) (fun w => B45_0_1 w)) rfl))) ?_
                refine effStep 6 [] (by kernel_rfl) (closedEx fun n8 => closedSt) (hLeft [] (by kernel_rfl) .n) ?_
                refine .c ?_ .n
                refine effOne rfl (opEx fun n8 => (gNone rfl (fStoreL 0 rfl rfl rfl rfl K45 rfl (rfl)))) ?_
                refine effDone (closedEx fun n8 => closedSt) (hLeft [] (by kernel_rfl) .n) (by kernel_rfl) ?_
                refine trEx fun n8 => ?_
                exact kMeetX (n8) (trivial) rfl (.c rfl .n) (.c rfl (.c rfl (.c rfl (.c rfl (.c rfl (.c rfl (.c rfl (.c rfl (.c rfl .n))))))))) (.c 1 rfl (.c 1 rfl (.c 1 rfl (.c 0 rfl .r))))
            · refine effOne rfl (gNone rfl (fAlloc Z45)) ?_
              refine effStep 3 [] (by kernel_rfl) (closedEx fun n8 => closedSt) (hLeft [2] (by kernel_rfl) (.c (fun _ _ ⟨n8, hs⟩ => by first | exact hs.ef.blkAt 2 rfl | exact hs.ef.blkAt 3 rfl | exact hs.ef.blkAt 4 rfl | exact hs.ef.blkAt 5 rfl | exact hs.ef.blkAt 6 rfl | exact hs.ef.blkAt 7 rfl | exact hs.ef.blkAt 8 rfl) .n)) ?_
              refine .c ?_ .n
              refine effOne rfl (opEx fun n8 => (gNone rfl (eCallWM 0 rfl rfl (.c rfl .n) C92 (fun w hw hb => hdr (k := (k + 1)) (n := 30000) hw hb (by omega) (by omega)) trSelf))) ?_
              refine effStep 4 [] (by kernel_rfl) (closedEx fun n8 => closedSt) (hLeft [] (by kernel_rfl) .n) ?_
              refine .c ?_ .n
              refine effOne rfl (opEx fun n8 => (gNone rfl (fV (yBuild (.c rfl (.c rfl .n)) (fun w => B45_0_1 w)) rfl))) ?_
              refine effStep 6 [] (by kernel_rfl) (closedEx fun n8 => closedSt) (hLeft [] (by kernel_rfl) .n) ?_
              refine .c ?_ .n
              refine effOne rfl (opEx fun n8 => (gNone rfl (fStoreL 0 rfl rfl rfl rfl K45 rfl (rfl)))) ?_
              refine effDone (closedEx fun n8 => closedSt) (hLeft [] (by kernel_rfl) .n) (by kernel_rfl) ?_
              refine trEx fun n8 => ?_
              exact kMeetX (n8) (trivial) rfl (.c rfl .n) (.c rfl (.c rfl (.c rfl (.c rfl (.c rfl (.c rfl (.c rfl (.c rfl (.c rfl .n))))))))) (.c 1 rfl (.c 1 rfl (.c 1 rfl (.c 0 rfl .r))))
          · refine effOne rfl (gNone rfl (fAlloc Z45)) ?_
            refine effStep 1 [] (by kernel_rfl) (closedEx fun n8 => closedSt) (hLeft [0, 2] (by kernel_rfl) (.c (fun _ _ ⟨n8, hs⟩ => hs.ef.sub (.c 1 rfl (.c 1 rfl (.c 1 rfl (.d 0 .r))))) (.c (fun _ _ ⟨n8, hs⟩ => by first | exact hs.ef.blkAt 2 rfl | exact hs.ef.blkAt 3 rfl | exact hs.ef.blkAt 4 rfl | exact hs.ef.blkAt 5 rfl | exact hs.ef.blkAt 6 rfl | exact hs.ef.blkAt 7 rfl | exact hs.ef.blkAt 8 rfl) .n))) ?_
            refine .c ?_ .n
            refine effOne rfl (opEx fun n8 => (gNone rfl (eCallWM 0 rfl rfl (.c rfl .n) C92 (fun w hw hb => hdr (k := k) (n := 30000) hw hb (by omega) (by omega)) trSelf))) ?_
            refine effStep 3 [] (by kernel_rfl) (closedEx fun n8 => closedSt) (hLeft [2] (by kernel_rfl) (.c (fun _ _ ⟨n8, hs⟩ => by first | exact hs.ef.blkAt 2 rfl | exact hs.ef.blkAt 3 rfl | exact hs.ef.blkAt 4 rfl | exact hs.ef.blkAt 5 rfl | exact hs.ef.blkAt 6 rfl | exact hs.ef.blkAt 7 rfl | exact hs.ef.blkAt 8 rfl) .n)) ?_
            refine .c ?_ .n
            refine effOne rfl (opEx fun n8 => (gNone rfl (eCallWM 0 rfl rfl (.c rfl .n) C92 (fun w hw hb => hdr (k := (k + 1)) (n := 30000) hw hb (by omega) (by omega)) trSelf))) ?_
            refine effStep 4 [] (by kernel_rfl) (closedEx fun n8 => closedSt) (hLeft [] (by kernel_rfl) .n) ?_
            refine .c ?_ .n
            refine effOne rfl (opEx fun n8 => (gNone rfl (fV (yBuild (.c rfl (.c rfl .n)) (fun w => B45_0_1 w)) rfl))) ?_
            refine effStep 6 [] (by kernel_rfl) (closedEx fun n8 => closedSt) (hLeft [] (by kernel_rfl) .n) ?_
            refine .c ?_ .n
            refine effOne rfl (opEx fun n8 => (gNone rfl (fStoreL 0 rfl rfl rfl rfl K45 rfl (rfl)))) ?_
            refine effDone (closedEx fun n8 => closedSt) (hLeft [] (by kernel_rfl) .n) (by kernel_rfl) ?_
            refine trEx fun n8 => ?_
            exact kMeetX (n8) (trivial) rfl (.c rfl .n) (.c rfl (.c rfl (.c rfl (.c rfl (.c rfl (.c rfl (.c rfl (.c rfl (.c rfl .n))))))))) (.c 1 rfl (.c 1 rfl (.c 1 rfl (.c 0 rfl .r))))
        · obtain ⟨x1, ex1⟩ : ∃ d, d = drawI l (k + 1) 30000 := ⟨_, rfl⟩
          obtain ⟨x2, ex2⟩ : ∃ d, d = drawI l (k + 1 + 1) 30000 := ⟨_, rfl⟩
          rw [← ex1, ← ex2]
          rw [← ex1] at b5
          rw [← ex2] at b6
          have sb1 := sky_bd (s := s) (m := x1) (by omega) (by omega)
          have sb2 := sky_bd (s := s) (m := x2) (by omega) (by omega)
          refine kSeq ?_
          refine kRegion rfl ?_
          refine lV (yFieldAddr rfl F45_0) rfl rfl ?_
          refine lV (yLoad1 rfl O3 (cOwn 3 rfl rfl)) rfl rfl ?_
          refine lV (yMove rfl) rfl rfl ?_
          refine lV (yFieldAddr rfl F45_0) rfl rfl ?_
          refine lV (yLoad1 rfl O3 (cOwn 5 rfl rfl)) rfl rfl ?_
          refine lV (yMul rfl rfl (by omega)) rfl rfl ?_
          refine lV (yQuo rfl rfl (by omega) (by omega) (by omega)) rfl rfl ?_
          refine lV (yAdd rfl rfl (by omega)) rfl rfl ?_
          refine lV (yFieldAddr rfl F45_1) rfl rfl ?_
          refine lV (yLoad1 rfl O3 (cOwn 3 rfl rfl)) rfl rfl ?_
          refine lV (yMove rfl) rfl rfl ?_
          refine lV (yFieldAddr rfl F45_1) rfl rfl ?_
          refine lV (yLoad1 rfl O3 (cOwn 5 rfl rfl)) rfl rfl ?_
          refine lV (yMul rfl rfl (by omega)) rfl rfl ?_
          refine lV (yQuo rfl rfl (by omega) (by omega) (by omega)) rfl rfl ?_
          refine lV (yAdd rfl rfl (by omega)) rfl rfl ?_
          refine lV (yBuild (.c rfl (.c rfl .n)) (fun w => B45_0_1 w)) rfl rfl ?_
          refine lE rfl ?_
          refine eAlloc Z45 fun n9 => ?_
          refine lE rfl ?_
          refine eStoreL 0 rfl rfl rfl rfl K45 rfl (rfl) ?_
          refine lNil ?_
          refine kThen ?_
          refine kSeq ?_
          refine kCutX (ι := Nat) (fun z => True) (fun z => [(10, .pointer (some ⟨z, 0, none⟩))]) [(1, _), (2, _), (3, _), (4, _), (5, _), (6, _), (7, _), (8, _), (9, _), (33, _), (34, _)] (fun z => [(nb, blk [i64 ((k + 1 + 1 + 1 + 1 + 1 + 1) : Nat)] 3), (nc, blk [.slice a l.length c] 43)]) (fun z => ([(z, blk (rowS (sv0 l k x1 x2)) 58)] ++ ((osL 58 g1 ++ osL 45 g2) ++ osL 45 g3))) [(n1, _), (n4, _), (n2, _), (n8, _), (n9, _)] (.c rfl (.c rfl (.c rfl (.c rfl (.c rfl (.c rfl (.c rfl (.c rfl (.c rfl (.c rfl (.c rfl .n))))))))))) (.c 1 rfl (.c 1 rfl (.c 1 rfl (.c 1 rfl (.c 0 rfl .n))))) ?_ (fun n10 _ => ?_)
          · refine kDrawE [(2, none)] [(6, (fun w => w.heap[n8]? = some (blk [i64 x1, i64 x2] 45)))] [0, 1, 2, 4, 5, 6] 5 hMix (by kernel_rfl) ?_
            refine .run rfl (yMove rfl) rfl rfl ?_
            refine .run rfl (yFieldAddr rfl F45_0) rfl rfl ?_
            refine .run rfl (yLoad1 rfl O3 (cOwn 6 rfl rfl)) rfl rfl ?_
            refine .run rfl (yMove rfl) rfl rfl ?_
            refine .run rfl (yFieldAddr rfl F45_1) rfl rfl ?_
            refine .run rfl (yLoad1 rfl O3 (cHeap rfl)) rfl rfl ?_
            refine .done ?_
            refine effStep 3 [9] (by kernel_rfl) closedSt (hLeft [2, 6] (by kernel_rfl) (.c (fun _ _ hs => hs.ef) (.c (fun _ _ hs => by first | exact hs.ef.blkAt 5 rfl | exact hs.ef.blkAt 6 rfl | exact hs.ef.blkAt 7 rfl | exact hs.ef.blkAt 8 rfl) .n))) ?_
            refine (.c ?_ (.c ?_ .n))
            · refine effOne rfl (gNone rfl (eCallWM 0 rfl rfl (.c rfl (.c rfl .n)) C91 (fun w hw hb => around_any nb nc n1 a c l (k + 1 + 1) x1 w hb ⟨hw.blkAt 1 rfl, hd.s.eff hw (mne ho.na ho.nc)⟩ (hw.blkAt 3 rfl) ho (by have := (hw.new _ (List.mem_of_getElem? (i := 1) rfl)); omega) (by have := (hw.new _ (List.mem_of_getElem? (i := 1) rfl)); omega) (by have := (hw.new _ (List.mem_of_getElem? (i := 1) rfl)); omega) (by omega) (by omega)) trSelf)) ?_
              refine effStep 7 [9] (by kernel_rfl) closedSt (hLeft [6] (by kernel_rfl) (.c (fun _ _ hs => by first | exact hs.ef.blkAt 5 rfl | exact hs.ef.blkAt 6 rfl | exact hs.ef.blkAt 7 rfl | exact hs.ef.blkAt 8 rfl) .n)) ?_
              refine (.c ?_ (.c ?_ .n))
              · refine effOne rfl (gNone rfl (eCallWM 0 rfl rfl (.c rfl (.c rfl .n)) C91 (fun w hw hb => around_any nb nc n1 a c l (k + 1 + 1 + 1 + 1) x2 w hb ⟨hw.blkAt 1 rfl, hd.s.eff hw (mne ho.na ho.nc)⟩ (hw.blkAt 3 rfl) ho (by have := (hw.new _ (List.mem_of_getElem? (i := 1) rfl)); omega) (by have := (hw.new _ (List.mem_of_getElem? (i := 1) rfl)); omega) (by have := (hw.new _ (List.mem_of_getElem? (i := 1) rfl)); omega) (by omega) (by omega)) trSelf)) ?_
                refine effStep 8 [9] (by kernel_rfl) closedSt (hLeft [] (by kernel_rfl) .n) ?_
                refine (.c ?_ (.c ?_ .n))
                · refine effOne rfl (gNone rfl (fV (yBuild (.c rfl (.c rfl .n)) (fun w => B58_0_1 w)) rfl)) ?_
                  refine effStep 9 [] (by kernel_rfl) closedSt (hLeft [] (by kernel_rfl) .n) ?_
                  refine .c ?_ .n
                  refine effOne rfl (gNone rfl (fAlloc Z58)) ?_
                  refine effStep 10 [] (by kernel_rfl) (closedEx fun n10 => closedSt) (hLeft [] (by kernel_rfl) .n) ?_
                  refine .c ?_ .n
                  refine effOne rfl (opEx fun n10 => (gNone rfl (fStoreL 0 rfl rfl rfl rfl K58 rfl (rfl)))) ?_
                  refine effDone (closedEx fun n10 => closedSt) (hLeft [] (by kernel_rfl) .n) (by kernel_rfl) ?_
                  refine trEx fun n10 => ?_
                  exact kMeetX (n10) (trivial) rfl (.c rfl .n) (.c rfl (.c rfl (.c rfl (.c rfl (.c rfl (.c rfl (.c rfl (.c rfl (.c rfl (.c rfl (.c rfl .n))))))))))) (.c 2 rfl (.c 2 rfl (.c 2 rfl (.c 2 rfl (.c 1 rfl (.c 0 rfl .r))))))
                · refine effOne rfl (gNone rfl (fAlloc Z58)) ?_
                  refine effStep 8 [] (by kernel_rfl) (closedEx fun n10 => closedSt) (hLeft [] (by kernel_rfl) .n) ?_
                  refine .c ?_ .n
                  refine effOne rfl (opEx fun n10 => (gNone rfl (fV (yBuild (.c rfl (.c rfl .n)) (fun w => B58_0_1 w)) rfl))) ?_
                  refine effStep 10 [] (by kernel_rfl) (closedEx fun n10 => closedSt) (hLeft [] (by kernel_rfl) .n) ?_
                  refine .c ?_ .n
                  refine effOne rfl (opEx fun n10 => (gNone rfl (fStoreL 0 rfl rfl rfl rfl K58 rfl (rfl)))) ?_
                  refine effDone (closedEx fun n10 => closedSt) (hLeft [] (by kernel_rfl) .n) (by kernel_rfl) ?_
                  refine trEx fun n10 => ?_
                  exact kMeetX (n10) (trivial) rfl (.c rfl .n) (.c rfl (.c rfl (.c rfl (.c rfl (.c rfl (.c rfl (.c rfl (.c rfl (.c rfl (.c rfl (.c rfl .n))))))))))) (.c 2 rfl (.c 2 rfl (.c 2 rfl (.c 2 rfl (.c 1 rfl (.c 0 rfl .r))))))
              · refine effOne rfl (gNone rfl (fAlloc Z58)) ?_
                refine effStep 7 [] (by kernel_rfl) (closedEx fun n10 => closedSt) (hLeft [6] (by kernel_rfl) (.c (fun _ _ ⟨n10, hs⟩ => by first | exact hs.ef.blkAt 5 rfl | exact hs.ef.blkAt 6 rfl | exact hs.ef.blkAt 7 rfl | exact hs.ef.blkAt 8 rfl) .n)) ?_
                refine .c ?_ .n
                refine effOne rfl (opEx fun n10 => (gNone rfl (eCallWM 0 rfl rfl (.c rfl (.c rfl .n)) C91 (fun w hw hb => around_any nb nc n1 a c l (k + 1 + 1 + 1 + 1) x2 w hb ⟨hw.blkAt 1 rfl, hd.s.eff hw (mne ho.na ho.nc)⟩ (hw.blkAt 4 rfl) ho (by have := (hw.new _ (List.mem_of_getElem? (i := 2) rfl)); omega) (by have := (hw.new _ (List.mem_of_getElem? (i := 2) rfl)); omega) (by have := (hw.new _ (List.mem_of_getElem? (i := 2) rfl)); omega) (by omega) (by omega)) trSelf))) ?_
                refine effStep 8 [] (by kernel_rfl) (closedEx fun n10 => closedSt) (hLeft [] (by kernel_rfl) .n) ?_
                refine .c ?_ .n
                refine effOne rfl (opEx fun n10 => (gNone rfl (fV (yBuild (.c rfl (.c rfl .n)) (fun w => B58_0_1 w)) rfl))) ?_
                refine effStep 10 [] (by kernel_rfl) (closedEx fun n10 => closedSt) (hLeft [] (by kernel_rfl) .n) ?_
                refine .c ?_ .n
                refine effOne rfl (opEx fun n10 => (gNone rfl (fStoreL 0 rfl rfl rfl rfl K58 rfl (rfl)))) ?_
                refine effDone (closedEx fun n10 => closedSt) (hLeft [] (by kernel_rfl) .n) (by kernel_rfl) ?_
                refine trEx fun n10 => ?_
                exact kMeetX (n10) (trivial) rfl (.c rfl .n) (.c rfl (.c rfl (.c rfl (.c rfl (.c rfl (.c rfl (.c rfl (.c rfl (.c rfl (.c rfl (.c rfl .n))))))))))) (.c 2 rfl (.c 2 rfl (.c 2 rfl (.c 2 rfl (.c 1 rfl (.c 0 rfl .r))))))
            · refine effOne rfl (gNone rfl (fAlloc Z58)) ?_
              refine effStep 3 [] (by kernel_rfl) (closedEx fun n10 => closedSt) (hLeft [2, 6] (by kernel_rfl) (.c (fun _ _ ⟨n10, hs⟩ => hs.ef.sub (.c 1 rfl (.c 1 rfl (.c 1 rfl (.c 1 rfl (.c 1 rfl (.d 0 .r))))))) (.c (fun _ _ ⟨n10, hs⟩ => by first | exact hs.ef.blkAt 5 rfl | exact hs.ef.blkAt 6 rfl | exact hs.ef.blkAt 7 rfl | exact hs.ef.blkAt 8 rfl) .n))) ?_
              refine .c ?_ .n
              refine effOne rfl (opEx fun n10 => (gNone rfl (eCallWM 0 rfl rfl (.c rfl (.c rfl .n)) C91 (fun w hw hb => around_any nb nc n1 a c l (k + 1 + 1) x1 w hb ⟨hw.blkAt 1 rfl, hd.s.eff hw (mne ho.na ho.nc)⟩ (hw.blkAt 4 rfl) ho (by have := (hw.new _ (List.mem_of_getElem? (i := 2) rfl)); omega) (by have := (hw.new _ (List.mem_of_getElem? (i := 2) rfl)); omega) (by have := (hw.new _ (List.mem_of_getElem? (i := 2) rfl)); omega) (by omega) (by omega)) trSelf))) ?_
              refine effStep 7 [] (by kernel_rfl) (closedEx fun n10 => closedSt) (hLeft [6] (by kernel_rfl) (.c (fun _ _ ⟨n10, hs⟩ => by first | exact hs.ef.blkAt 5 rfl | exact hs.ef.blkAt 6 rfl | exact hs.ef.blkAt 7 rfl | exact hs.ef.blkAt 8 rfl) .n)) ?_
              refine .c ?_ .n
              refine effOne rfl (opEx fun n10 => (gNone rfl (eCallWM 0 rfl rfl (.c rfl (.c rfl .n)) C91 (fun w hw hb => around_any nb nc n1 a c l (k + 1 + 1 + 1 + 1) x2 w hb ⟨hw.blkAt 1 rfl, hd.s.eff hw (mne ho.na ho.nc)⟩ (hw.blkAt 4 rfl) ho (by have := (hw.new _ (List.mem_of_getElem? (i := 2) rfl)); omega) (by have := (hw.new _ (List.mem_of_getElem? (i := 2) rfl)); omega) (by have := (hw.new _ (List.mem_of_getElem? (i := 2) rfl)); omega) (by omega) (by omega)) trSelf))) ?_
              refine effStep 8 [] (by kernel_rfl) (closedEx fun n10 => closedSt) (hLeft [] (by kernel_rfl) .n) ?_
              refine .c ?_ .n
              refine effOne rfl (opEx fun n10 => (gNone rfl (fV (yBuild (.c rfl (.c rfl .n)) (fun w => B58_0_1 w)) rfl))) ?_
              refine effStep 10 [] (by kernel_rfl) (closedEx fun n10 => closedSt) (hLeft [] (by kernel_rfl) .n) ?_
              refine .c ?_ .n
              refine effOne rfl (opEx fun n10 => (gNone rfl (fStoreL 0 rfl rfl rfl rfl K58 rfl (rfl)))) ?_
              refine effDone (closedEx fun n10 => closedSt) (hLeft [] (by kernel_rfl) .n) (by kernel_rfl) ?_
              refine trEx fun n10 => ?_
              exact kMeetX (n10) (trivial) rfl (.c rfl .n) (.c rfl (.c rfl (.c rfl (.c rfl (.c rfl (.c rfl (.c rfl (.c rfl (.c rfl (.c rfl (.c rfl .n))))))))))) (.c 2 rfl (.c 2 rfl (.c 2 rfl (.c 2 rfl (.c 1 rfl (.c 0 rfl .r))))))
          · refine kSeq ?_
            refine kSeq ?_
            have hcd : ∀ d, -10000 ≤ pd d (c1, c2) ∧ pd d (c1, c2) ≤ 9999 := fun d => by cases d <;> simp only [pd, Bool.false_eq_true, if_false, if_true] <;> omega
            have hmd : ∀ d, 0 ≤ pd d (x1, x2) ∧ pd d (x1, x2) ≤ 29999 := fun d => by cases d <;> simp only [pd, Bool.false_eq_true, if_false, if_true] <;> omega
            refine kRegion rfl ?_
            refine lV (yLoad1 rfl O49 (cOwn 2 rfl rfl)) rfl rfl ?_
            refine lE rfl ?_
            refine eCallWM 0 rfl rfl (.c rfl .n) C92 (fun w hw hb => hdr (k := (k + 1 + 1 + 1 + 1 + 1 + 1)) (n := 2) hw hb (by omega) (by omega)) ?_
            obtain ⟨r, er⟩ : ∃ r, k + 1 + 1 + 1 + 1 + 1 + 1 + 1 = r := ⟨_, rfl⟩
            rw [er]
            refine lV (yEql rfl rfl) rfl rfl ?_
            refine lNil ?_
            refine kThen ?_
            refine kCutX (ι := StarV × Nat) (fun z => StarT s (c1, c2) z.1 (x1, x2) (c1 + s * x1 / 1000, c2 + s * x2 / 1000) ∧ z.2 ≤ k + 11) (fun z => []) [(1, _), (2, _), (3, _), (4, _), (5, _), (6, _), (7, _), (8, _), (9, _), (10, _), (33, _), (34, _)] (fun z => [(nb, blk [i64 (z.2 : Nat)] 3), (nc, blk [.slice a l.length c] 43)]) (fun z => ([(n10, blk (rowS z.1) 58)] ++ ((osL 58 g1 ++ osL 45 g2) ++ osL 45 g3))) [(n1, _), (n4, _), (n2, _), (n8, _), (n9, _)] (.c rfl (.c rfl (.c rfl (.c rfl (.c rfl (.c rfl (.c rfl (.c rfl (.c rfl (.c rfl (.c rfl (.c rfl .n)))))))))))) (.c 0 rfl (.c 0 rfl (.c 0 rfl (.c 0 rfl (.c 0 rfl .n))))) ?_ (fun z hz => ?_)
            · refine split (t := 69) rfl (fun h69 => ?_) (fun h69 => ?_)
              · refine kIfT rfl ?_
                have q0 := draw_bd l (r + 1) (n := 8) (by omega)
                have q1 := draw_bd l (r + 1 + 1) (n := 8) (by omega)
                have q2 := draw_bd l (r + 1 + 1 + 1) (n := 8) (by omega)
                have q3 := draw_bd l (r + 1 + 1 + 1 + 1) (n := 8) (by omega)
                have hmt : StarT s (c1, c2) (sv1 l k r x1 x2 (c1 + s * x1 / 1000) (c2 + s * x2 / 1000)) (x1, x2) (c1 + s * x1 / 1000, c2 + s * x2 / 1000) ∧ r + 1 + 1 + 1 + 1 ≤ k + 11 := ⟨star_made bs hcd hmd _ rfl rfl fun _ => ⟨_, _, _, _, q0, q1, q2, q3, rfl, rfl⟩, by omega⟩
                refine kDrawE [] [(0, (fun w => w.heap[n10]? = some (blk (rowS (sv0 l k x1 x2)) 58))), (2, (fun w => w.heap[n9]? = some (blk [i64 (c1 + s * x1 / 1000), i64 (c2 + s * x2 / 1000)] 45))), (3, (fun w => w.heap[n1]? = some (blk [drawF nb nc] 49))), (7, (fun w => w.heap[n9]? = some (blk [i64 (c1 + s * x1 / 1000), i64 (c2 + s * x2 / 1000)] 45))), (8, (fun w => w.heap[n1]? = some (blk [drawF nb nc] 49))), (12, (fun w => w.heap[n9]? = some (blk [i64 (c1 + s * x1 / 1000), i64 (c2 + s * x2 / 1000)] 45))), (13, (fun w => w.heap[n1]? = some (blk [drawF nb nc] 49))), (17, (fun w => w.heap[n9]? = some (blk [i64 (c1 + s * x1 / 1000), i64 (c2 + s * x2 / 1000)] 45))), (18, (fun w => w.heap[n1]? = some (blk [drawF nb nc] 49)))] [0, 1, 2, 3, 6, 7, 8, 11, 12, 13, 16, 17, 18] 10 hMix (by kernel_rfl) ?_
                refine .run rfl (yLoadA (vs := [_, _, _, _, _, _, _, _, _]) rfl A58 (cHeap rfl)) rfl rfl ?_
                refine .run rfl (yFieldAddr rfl F45_0) rfl rfl ?_
                refine .run rfl (yLoad1 rfl O3 (cHeap rfl)) rfl rfl ?_
                refine .run rfl (yLoad1 rfl O49 (cHeap rfl)) rfl rfl ?_
                refine .run rfl (yFieldAddr rfl F45_0) rfl rfl ?_
                refine .run rfl (yLoad1 rfl O3 (cHeap rfl)) rfl rfl ?_
                refine .run rfl (yLoad1 rfl O49 (cHeap rfl)) rfl rfl ?_
                refine .run rfl (yFieldAddr rfl F45_1) rfl rfl ?_
                refine .run rfl (yLoad1 rfl O3 (cHeap rfl)) rfl rfl ?_
                refine .run rfl (yLoad1 rfl O49 (cHeap rfl)) rfl rfl ?_
                refine .run rfl (yFieldAddr rfl F45_1) rfl rfl ?_
                refine .run rfl (yLoad1 rfl O3 (cHeap rfl)) rfl rfl ?_
                refine .run rfl (yLoad1 rfl O49 (cHeap rfl)) rfl rfl ?_
                refine .done ?_
                refine effStep 4 [] (by kernel_rfl) closedSt (hLeft [0, 2, 3, 7, 8, 12, 13, 17, 18] (by kernel_rfl) (.c (bk 7 rfl) (.c (bk 6 rfl) (.c (bk 2 rfl) (.c (bk 6 rfl) (.c (bk 2 rfl) (.c (bk 6 rfl) (.c (bk 2 rfl) (.c (bk 6 rfl) (.c (bk 2 rfl) .n)))))))))) ?_
                refine .c ?_ .n
                refine effOne rfl (gNone rfl (eCallWM 0 rfl rfl (.c rfl .n) C92 (fun w hw hb => h8 (k := r) hw hb (by omega)) trSelf)) ?_
                refine effStep 5 [9] (by kernel_rfl) closedSt (hLeft [0, 2, 7, 8, 12, 13, 17, 18] (by kernel_rfl) (.c (bk 7 rfl) (.c (bk 6 rfl) (.c (bk 6 rfl) (.c (bk 2 rfl) (.c (bk 6 rfl) (.c (bk 2 rfl) (.c (bk 6 rfl) (.c (bk 2 rfl) .n))))))))) ?_
                refine (.c ?_ (.c ?_ .n))
                · refine effOne rfl (gNone rfl (fV (ySub rfl rfl (by omega)) rfl)) ?_
                  refine effStep 9 [] (by kernel_rfl) closedSt (hLeft [0, 7, 8, 12, 13, 17, 18] (by kernel_rfl) (.c (bk 7 rfl) (.c (bk 6 rfl) (.c (bk 2 rfl) (.c (bk 6 rfl) (.c (bk 2 rfl) (.c (bk 6 rfl) (.c (bk 2 rfl) .n)))))))) ?_
                  refine .c ?_ .n
                  refine effOne rfl (gNone rfl (eCallWM 0 rfl rfl (.c rfl .n) C92 (fun w hw hb => h8 (k := r + 1) hw hb (by omega)) trSelf)) ?_
                  refine effStep 10 [14] (by kernel_rfl) closedSt (hLeft [0, 7, 12, 13, 17, 18] (by kernel_rfl) (.c (bk 7 rfl) (.c (bk 6 rfl) (.c (bk 6 rfl) (.c (bk 2 rfl) (.c (bk 6 rfl) (.c (bk 2 rfl) .n))))))) ?_
                  refine (.c ?_ (.c ?_ .n))
                  · refine effOne rfl (gNone rfl (fV (yAdd rfl rfl (by omega)) rfl)) ?_
                    refine effStep 14 [] (by kernel_rfl) closedSt (hLeft [0, 12, 13, 17, 18] (by kernel_rfl) (.c (bk 7 rfl) (.c (bk 6 rfl) (.c (bk 2 rfl) (.c (bk 6 rfl) (.c (bk 2 rfl) .n)))))) ?_
                    refine .c ?_ .n
                    refine effOne rfl (gNone rfl (eCallWM 0 rfl rfl (.c rfl .n) C92 (fun w hw hb => h8 (k := r + 1 + 1) hw hb (by omega)) trSelf)) ?_
                    refine effStep 15 [19] (by kernel_rfl) closedSt (hLeft [0, 12, 17, 18] (by kernel_rfl) (.c (bk 7 rfl) (.c (bk 6 rfl) (.c (bk 6 rfl) (.c (bk 2 rfl) .n))))) ?_
                    refine (.c ?_ (.c ?_ .n))
                    · refine effOne rfl (gNone rfl (fV (ySub rfl rfl (by omega)) rfl)) ?_
                      refine effStep 19 [] (by kernel_rfl) closedSt (hLeft [0, 17, 18] (by kernel_rfl) (.c (bk 7 rfl) (.c (bk 6 rfl) (.c (bk 2 rfl) .n)))) ?_
                      refine .c ?_ .n
                      refine effOne rfl (gNone rfl (eCallWM 0 rfl rfl (.c rfl .n) C92 (fun w hw hb => h8 (k := r + 1 + 1 + 1) hw hb (by omega)) trSelf)) ?_
                      refine effStep 20 [] (by kernel_rfl) closedSt (hLeft [0, 17] (by kernel_rfl) (.c (bk 7 rfl) (.c (bk 6 rfl) .n))) ?_
                      refine .c ?_ .n
                      refine effOne rfl (gNone rfl (fV (yAdd rfl rfl (by omega)) rfl)) ?_
                      refine effStep 21 [] (by kernel_rfl) closedSt (hLeft [0] (by kernel_rfl) (.c (bk 7 rfl) .n)) ?_
                      refine .c ?_ .n
                      refine effOne rfl (gNone rfl (fV (yCall rfl (.c rfl (.c rfl (.c rfl (.c rfl (.c rfl .n))))) C89 (fun w hw => knownL_any (sv0 l k x1 x2) _ _ _ _ w)) rfl)) ?_
                      refine effStep 22 [] (by kernel_rfl) closedSt (hLeft [] (by kernel_rfl) .n) ?_
                      refine .c ?_ .n
                      refine effOne rfl (gNone rfl (fStoreL 5 rfl rfl rfl rfl K58 rfl (rfl))) ?_
                      refine effDone closedSt (hLeft [] (by kernel_rfl) .n) (by kernel_rfl) ?_
                      exact kMeetX (zv1 l k r s c1 c2 x1 x2) (hmt) rfl .n (.c rfl (.c rfl (.c rfl (.c rfl (.c rfl (.c rfl (.c rfl (.c rfl (.c rfl (.c rfl (.c rfl (.c rfl .n)))))))))))) (.c 0 rfl (.c 0 rfl (.c 0 rfl (.c 0 rfl (.c 0 rfl (.c 0 rfl .r))))))
                    · refine effOne rfl (gNone rfl (eCallWM 0 rfl rfl (.c rfl .n) C92 (fun w hw hb => h8 (k := r + 1 + 1 + 1) hw hb (by omega)) trSelf)) ?_
                      refine effStep 15 [20] (by kernel_rfl) closedSt (hLeft [0, 12, 17] (by kernel_rfl) (.c (bk 7 rfl) (.c (bk 6 rfl) (.c (bk 6 rfl) .n)))) ?_
                      refine (.c ?_ (.c ?_ .n))
                      · refine effOne rfl (gNone rfl (fV (ySub rfl rfl (by omega)) rfl)) ?_
                        refine effStep 20 [] (by kernel_rfl) closedSt (hLeft [0, 17] (by kernel_rfl) (.c (bk 7 rfl) (.c (bk 6 rfl) .n))) ?_
                        refine .c ?_ .n
                        refine effOne rfl (gNone rfl (fV (yAdd rfl rfl (by omega)) rfl)) ?_
                        refine effStep 21 [] (by kernel_rfl) closedSt (hLeft [0] (by kernel_rfl) (.c (bk 7 rfl) .n)) ?_
                        refine .c ?_ .n
                        refine effOne rfl (gNone rfl (fV (yCall rfl (.c rfl (.c rfl (.c rfl (.c rfl (.c rfl .n))))) C89 (fun w hw => knownL_any (sv0 l k x1 x2) _ _ _ _ w)) rfl)) ?_
                        refine effStep 22 [] (by kernel_rfl) closedSt (hLeft [] (by kernel_rfl) .n) ?_
                        refine .c ?_ .n
                        refine effOne rfl (gNone rfl (fStoreL 5 rfl rfl rfl rfl K58 rfl (rfl))) ?_
                        refine effDone closedSt (hLeft [] (by kernel_rfl) .n) (by kernel_rfl) ?_
                        exact kMeetX (zv1 l k r s c1 c2 x1 x2) (hmt) rfl .n (.c rfl (.c rfl (.c rfl (.c rfl (.c rfl (.c rfl (.c rfl (.c rfl (.c rfl (.c rfl (.c rfl (.c rfl .n)))))))))))) (.c 0 rfl (.c 0 rfl (.c 0 rfl (.c 0 rfl (.c 0 rfl (.c 0 rfl .r))))))
                      · refine effOne rfl (gNone rfl (fV (yAdd rfl rfl (by omega)) rfl)) ?_
                        refine effStep 15 [] (by kernel_rfl) closedSt (hLeft [0, 12] (by kernel_rfl) (.c (bk 7 rfl) (.c (bk 6 rfl) .n))) ?_
                        refine .c ?_ .n
                        refine effOne rfl (gNone rfl (fV (ySub rfl rfl (by omega)) rfl)) ?_
                        refine effStep 21 [] (by kernel_rfl) closedSt (hLeft [0] (by kernel_rfl) (.c (bk 7 rfl) .n)) ?_
                        refine .c ?_ .n
                        refine effOne rfl (gNone rfl (fV (yCall rfl (.c rfl (.c rfl (.c rfl (.c rfl (.c rfl .n))))) C89 (fun w hw => knownL_any (sv0 l k x1 x2) _ _ _ _ w)) rfl)) ?_
                        refine effStep 22 [] (by kernel_rfl) closedSt (hLeft [] (by kernel_rfl) .n) ?_
                        refine .c ?_ .n
                        refine effOne rfl (gNone rfl (fStoreL 5 rfl rfl rfl rfl K58 rfl (rfl))) ?_
                        refine effDone closedSt (hLeft [] (by kernel_rfl) .n) (by kernel_rfl) ?_
                        exact kMeetX (zv1 l k r s c1 c2 x1 x2) (hmt) rfl .n (.c rfl (.c rfl (.c rfl (.c rfl (.c rfl (.c rfl (.c rfl (.c rfl (.c rfl (.c rfl (.c rfl (.c rfl .n)))))))))))) (.c 0 rfl (.c 0 rfl (.c 0 rfl (.c 0 rfl (.c 0 rfl (.c 0 rfl .r))))))
                  · refine effOne rfl (gNone rfl (eCallWM 0 rfl rfl (.c rfl .n) C92 (fun w hw hb => h8 (k := r + 1 + 1) hw hb (by omega)) trSelf)) ?_
                    refine effStep 10 [15, 19] (by kernel_rfl) closedSt (hLeft [0, 7, 12, 17, 18] (by kernel_rfl) (.c (bk 7 rfl) (.c (bk 6 rfl) (.c (bk 6 rfl) (.c (bk 6 rfl) (.c (bk 2 rfl) .n)))))) ?_
                    refine (.c ?_ (.c ?_ (.c ?_ .n)))
                    · refine effOne rfl (gNone rfl (fV (yAdd rfl rfl (by omega)) rfl)) ?_
                      refine effStep 15 [19] (by kernel_rfl) closedSt (hLeft [0, 12, 17, 18] (by kernel_rfl) (.c (bk 7 rfl) (.c (bk 6 rfl) (.c (bk 6 rfl) (.c (bk 2 rfl) .n))))) ?_
                      refine (.c ?_ (.c ?_ .n))
                      · refine effOne rfl (gNone rfl (fV (ySub rfl rfl (by omega)) rfl)) ?_
                        refine effStep 19 [] (by kernel_rfl) closedSt (hLeft [0, 17, 18] (by kernel_rfl) (.c (bk 7 rfl) (.c (bk 6 rfl) (.c (bk 2 rfl) .n)))) ?_
                        refine .c ?_ .n
                        refine effOne rfl (gNone rfl (eCallWM 0 rfl rfl (.c rfl .n) C92 (fun w hw hb => h8 (k := r + 1 + 1 + 1) hw hb (by omega)) trSelf)) ?_
                        refine effStep 20 [] (by kernel_rfl) closedSt (hLeft [0, 17] (by kernel_rfl) (.c (bk 7 rfl) (.c (bk 6 rfl) .n))) ?_
                        refine .c ?_ .n
                        refine effOne rfl (gNone rfl (fV (yAdd rfl rfl (by omega)) rfl)) ?_
                        refine effStep 21 [] (by kernel_rfl) closedSt (hLeft [0] (by kernel_rfl) (.c (bk 7 rfl) .n)) ?_
                        refine .c ?_ .n
                        refine effOne rfl (gNone rfl (fV (yCall rfl (.c rfl (.c rfl (.c rfl (.c rfl (.c rfl .n))))) C89 (fun w hw => knownL_any (sv0 l k x1 x2) _ _ _ _ w)) rfl)) ?_
                        refine effStep 22 [] (by kernel_rfl) closedSt (hLeft [] (by kernel_rfl) .n) ?_
                        refine .c ?_ .n
                        refine effOne rfl (gNone rfl (fStoreL 5 rfl rfl rfl rfl K58 rfl (rfl))) ?_
                        refine effDone closedSt (hLeft [] (by kernel_rfl) .n) (by kernel_rfl) ?_
                        exact kMeetX (zv1 l k r s c1 c2 x1 x2) (hmt) rfl .n (.c rfl (.c rfl (.c rfl (.c rfl (.c rfl (.c rfl (.c rfl (.c rfl (.c rfl (.c rfl (.c rfl (.c rfl .n)))))))))))) (.c 0 rfl (.c 0 rfl (.c 0 rfl (.c 0 rfl (.c 0 rfl (.c 0 rfl .r))))))
                      · refine effOne rfl (gNone rfl (eCallWM 0 rfl rfl (.c rfl .n) C92 (fun w hw hb => h8 (k := r + 1 + 1 + 1) hw hb (by omega)) trSelf)) ?_
                        refine effStep 15 [20] (by kernel_rfl) closedSt (hLeft [0, 12, 17] (by kernel_rfl) (.c (bk 7 rfl) (.c (bk 6 rfl) (.c (bk 6 rfl) .n)))) ?_
                        refine (.c ?_ (.c ?_ .n))
                        · refine effOne rfl (gNone rfl (fV (ySub rfl rfl (by omega)) rfl)) ?_
                          refine effStep 20 [] (by kernel_rfl) closedSt (hLeft [0, 17] (by kernel_rfl) (.c (bk 7 rfl) (.c (bk 6 rfl) .n))) ?_
                          refine .c ?_ .n
                          refine effOne rfl (gNone rfl (fV (yAdd rfl rfl (by omega)) rfl)) ?_
                          refine effStep 21 [] (by kernel_rfl) closedSt (hLeft [0] (by kernel_rfl) (.c (bk 7 rfl) .n)) ?_
                          refine .c ?_ .n
                          refine effOne rfl (gNone rfl (fV (yCall rfl (.c rfl (.c rfl (.c rfl (.c rfl (.c rfl .n))))) C89 (fun w hw => knownL_any (sv0 l k x1 x2) _ _ _ _ w)) rfl)) ?_
                          refine effStep 22 [] (by kernel_rfl) closedSt (hLeft [] (by kernel_rfl) .n) ?_
                          refine .c ?_ .n
                          refine effOne rfl (gNone rfl (fStoreL 5 rfl rfl rfl rfl K58 rfl (rfl))) ?_
                          refine effDone closedSt (hLeft [] (by kernel_rfl) .n) (by kernel_rfl) ?_
                          exact kMeetX (zv1 l k r s c1 c2 x1 x2) (hmt) rfl .n (.c rfl (.c rfl (.c rfl (.c rfl (.c rfl (.c rfl (.c rfl (.c rfl (.c rfl (.c rfl (.c rfl (.c rfl .n)))))))))))) (.c 0 rfl (.c 0 rfl (.c 0 rfl (.c 0 rfl (.c 0 rfl (.c 0 rfl .r))))))
                        · refine effOne rfl (gNone rfl (fV (yAdd rfl rfl (by omega)) rfl)) ?_
                          refine effStep 15 [] (by kernel_rfl) closedSt (hLeft [0, 12] (by kernel_rfl) (.c (bk 7 rfl) (.c (bk 6 rfl) .n))) ?_
                          refine .c ?_ .n
                          refine effOne rfl (gNone rfl (fV (ySub rfl rfl (by omega)) rfl)) ?_
                          refine effStep 21 [] (by kernel_rfl) closedSt (hLeft [0] (by kernel_rfl) (.c (bk 7 rfl) .n)) ?_
                          refine .c ?_ .n
                          refine effOne rfl (gNone rfl (fV (yCall rfl (.c rfl (.c rfl (.c rfl (.c rfl (.c rfl .n))))) C89 (fun w hw => knownL_any (sv0 l k x1 x2) _ _ _ _ w)) rfl)) ?_
                          refine effStep 22 [] (by kernel_rfl) closedSt (hLeft [] (by kernel_rfl) .n) ?_
                          refine .c ?_ .n
                          refine effOne rfl (gNone rfl (fStoreL 5 rfl rfl rfl rfl K58 rfl (rfl))) ?_
                          refine effDone closedSt (hLeft [] (by kernel_rfl) .n) (by kernel_rfl) ?_
                          exact kMeetX (zv1 l k r s c1 c2 x1 x2) (hmt) rfl .n (.c rfl (.c rfl (.c rfl (.c rfl (.c rfl (.c rfl (.c rfl (.c rfl (.c rfl (.c rfl (.c rfl (.c rfl .n)))))))))))) (.c 0 rfl (.c 0 rfl (.c 0 rfl (.c 0 rfl (.c 0 rfl (.c 0 rfl .r))))))
                    · refine effOne rfl (gNone rfl (fV (ySub rfl rfl (by omega)) rfl)) ?_
                      refine effStep 10 [19] (by kernel_rfl) closedSt (hLeft [0, 7, 17, 18] (by kernel_rfl) (.c (bk 7 rfl) (.c (bk 6 rfl) (.c (bk 6 rfl) (.c (bk 2 rfl) .n))))) ?_
                      refine (.c ?_ (.c ?_ .n))
                      · refine effOne rfl (gNone rfl (fV (yAdd rfl rfl (by omega)) rfl)) ?_
                        refine effStep 19 [] (by kernel_rfl) closedSt (hLeft [0, 17, 18] (by kernel_rfl) (.c (bk 7 rfl) (.c (bk 6 rfl) (.c (bk 2 rfl) .n)))) ?_
                        refine .c ?_ .n
                        refine effOne rfl (gNone rfl (eCallWM 0 rfl rfl (.c rfl .n) C92 (fun w hw hb => h8 (k := r + 1 + 1 + 1) hw hb (by omega)) trSelf)) ?_
                        refine effStep 20 [] (by kernel_rfl) closedSt (hLeft [0, 17] (by kernel_rfl) (.c (bk 7 rfl) (.c (bk 6 rfl) .n))) ?_
                        refine .c ?_ .n
                        refine effOne rfl (gNone rfl (fV (yAdd rfl rfl (by omega)) rfl)) ?_
                        refine effStep 21 [] (by kernel_rfl) closedSt (hLeft [0] (by kernel_rfl) (.c (bk 7 rfl) .n)) ?_
                        refine .c ?_ .n
                        refine effOne rfl (gNone rfl (fV (yCall rfl (.c rfl (.c rfl (.c rfl (.c rfl (.c rfl .n))))) C89 (fun w hw => knownL_any (sv0 l k x1 x2) _ _ _ _ w)) rfl)) ?_
                        refine effStep 22 [] (by kernel_rfl) closedSt (hLeft [] (by kernel_rfl) .n) ?_
                        refine .c ?_ .n
                        refine effOne rfl (gNone rfl (fStoreL 5 rfl rfl rfl rfl K58 rfl (rfl))) ?_
                        refine effDone closedSt (hLeft [] (by kernel_rfl) .n) (by kernel_rfl) ?_
                        exact kMeetX (zv1 l k r s c1 c2 x1 x2) (hmt) rfl .n (.c rfl (.c rfl (.c rfl (.c rfl (.c rfl (.c rfl (.c rfl (.c rfl (.c rfl (.c rfl (.c rfl (.c rfl .n)))))))))))) (.c 0 rfl (.c 0 rfl (.c 0 rfl (.c 0 rfl (.c 0 rfl (.c 0 rfl .r))))))
                      · refine effOne rfl (gNone rfl (eCallWM 0 rfl rfl (.c rfl .n) C92 (fun w hw hb => h8 (k := r + 1 + 1 + 1) hw hb (by omega)) trSelf)) ?_
                        refine effStep 10 [20] (by kernel_rfl) closedSt (hLeft [0, 7, 17] (by kernel_rfl) (.c (bk 7 rfl) (.c (bk 6 rfl) (.c (bk 6 rfl) .n)))) ?_
                        refine (.c ?_ (.c ?_ .n))
                        · refine effOne rfl (gNone rfl (fV (yAdd rfl rfl (by omega)) rfl)) ?_
                          refine effStep 20 [] (by kernel_rfl) closedSt (hLeft [0, 17] (by kernel_rfl) (.c (bk 7 rfl) (.c (bk 6 rfl) .n))) ?_
                          refine .c ?_ .n
                          refine effOne rfl (gNone rfl (fV (yAdd rfl rfl (by omega)) rfl)) ?_
                          refine effStep 21 [] (by kernel_rfl) closedSt (hLeft [0] (by kernel_rfl) (.c (bk 7 rfl) .n)) ?_
                          refine .c ?_ .n
                          refine effOne rfl (gNone rfl (fV (yCall rfl (.c rfl (.c rfl (.c rfl (.c rfl (.c rfl .n))))) C89 (fun w hw => knownL_any (sv0 l k x1 x2) _ _ _ _ w)) rfl)) ?_
                          refine effStep 22 [] (by kernel_rfl) closedSt (hLeft [] (by kernel_rfl) .n) ?_
                          refine .c ?_ .n
                          refine effOne rfl (gNone rfl (fStoreL 5 rfl rfl rfl rfl K58 rfl (rfl))) ?_
                          refine effDone closedSt (hLeft [] (by kernel_rfl) .n) (by kernel_rfl) ?_
                          exact kMeetX (zv1 l k r s c1 c2 x1 x2) (hmt) rfl .n (.c rfl (.c rfl (.c rfl (.c rfl (.c rfl (.c rfl (.c rfl (.c rfl (.c rfl (.c rfl (.c rfl (.c rfl .n)))))))))))) (.c 0 rfl (.c 0 rfl (.c 0 rfl (.c 0 rfl (.c 0 rfl (.c 0 rfl .r))))))
                        · refine effOne rfl (gNone rfl (fV (yAdd rfl rfl (by omega)) rfl)) ?_
                          refine effStep 10 [] (by kernel_rfl) closedSt (hLeft [0, 7] (by kernel_rfl) (.c (bk 7 rfl) (.c (bk 6 rfl) .n))) ?_
                          refine .c ?_ .n
                          refine effOne rfl (gNone rfl (fV (yAdd rfl rfl (by omega)) rfl)) ?_
                          refine effStep 21 [] (by kernel_rfl) closedSt (hLeft [0] (by kernel_rfl) (.c (bk 7 rfl) .n)) ?_
                          refine .c ?_ .n
                          refine effOne rfl (gNone rfl (fV (yCall rfl (.c rfl (.c rfl (.c rfl (.c rfl (.c rfl .n))))) C89 (fun w hw => knownL_any (sv0 l k x1 x2) _ _ _ _ w)) rfl)) ?_
                          refine effStep 22 [] (by kernel_rfl) closedSt (hLeft [] (by kernel_rfl) .n) ?_
                          refine .c ?_ .n
                          refine effOne rfl (gNone rfl (fStoreL 5 rfl rfl rfl rfl K58 rfl (rfl))) ?_
                          refine effDone closedSt (hLeft [] (by kernel_rfl) .n) (by kernel_rfl) ?_
                          exact kMeetX (zv1 l k r s c1 c2 x1 x2) (hmt) rfl .n (.c rfl (.c rfl (.c rfl (.c rfl (.c rfl (.c rfl (.c rfl (.c rfl (.c rfl (.c rfl (.c rfl (.c rfl .n)))))))))))) (.c 0 rfl (.c 0 rfl (.c 0 rfl (.c 0 rfl (.c 0 rfl (.c 0 rfl .r))))))
                    · refine effOne rfl (gNone rfl (eCallWM 0 rfl rfl (.c rfl .n) C92 (fun w hw hb => h8 (k := r + 1 + 1 + 1) hw hb (by omega)) trSelf)) ?_
                      refine effStep 10 [15, 20] (by kernel_rfl) closedSt (hLeft [0, 7, 12, 17] (by kernel_rfl) (.c (bk 7 rfl) (.c (bk 6 rfl) (.c (bk 6 rfl) (.c (bk 6 rfl) .n))))) ?_
                      refine (.c ?_ (.c ?_ (.c ?_ .n)))
                      · refine effOne rfl (gNone rfl (fV (yAdd rfl rfl (by omega)) rfl)) ?_
                        refine effStep 15 [20] (by kernel_rfl) closedSt (hLeft [0, 12, 17] (by kernel_rfl) (.c (bk 7 rfl) (.c (bk 6 rfl) (.c (bk 6 rfl) .n)))) ?_
                        refine (.c ?_ (.c ?_ .n))
                        · refine effOne rfl (gNone rfl (fV (ySub rfl rfl (by omega)) rfl)) ?_
                          refine effStep 20 [] (by kernel_rfl) closedSt (hLeft [0, 17] (by kernel_rfl) (.c (bk 7 rfl) (.c (bk 6 rfl) .n))) ?_
                          refine .c ?_ .n
                          refine effOne rfl (gNone rfl (fV (yAdd rfl rfl (by omega)) rfl)) ?_
                          refine effStep 21 [] (by kernel_rfl) closedSt (hLeft [0] (by kernel_rfl) (.c (bk 7 rfl) .n)) ?_
                          refine .c ?_ .n
                          refine effOne rfl (gNone rfl (fV (yCall rfl (.c rfl (.c rfl (.c rfl (.c rfl (.c rfl .n))))) C89 (fun w hw => knownL_any (sv0 l k x1 x2) _ _ _ _ w)) rfl)) ?_
                          refine effStep 22 [] (by kernel_rfl) closedSt (hLeft [] (by kernel_rfl) .n) ?_
                          refine .c ?_ .n
                          refine effOne rfl (gNone rfl (fStoreL 5 rfl rfl rfl rfl K58 rfl (rfl))) ?_
                          refine effDone closedSt (hLeft [] (by kernel_rfl) .n) (by kernel_rfl) ?_
                          exact kMeetX (zv1 l k r s c1 c2 x1 x2) (hmt) rfl .n (.c rfl (.c rfl (.c rfl (.c rfl (.c rfl (.c rfl (.c rfl (.c rfl (.c rfl (.c rfl (.c rfl (.c rfl .n)))))))))))) (.c 0 rfl (.c 0 rfl (.c 0 rfl (.c 0 rfl (.c 0 rfl (.c 0 rfl .r))))))
                        · refine effOne rfl (gNone rfl (fV (yAdd rfl rfl (by omega)) rfl)) ?_
                          refine effStep 15 [] (by kernel_rfl) closedSt (hLeft [0, 12] (by kernel_rfl) (.c (bk 7 rfl) (.c (bk 6 rfl) .n))) ?_
                          refine .c ?_ .n
                          refine effOne rfl (gNone rfl (fV (ySub rfl rfl (by omega)) rfl)) ?_
                          refine effStep 21 [] (by kernel_rfl) closedSt (hLeft [0] (by kernel_rfl) (.c (bk 7 rfl) .n)) ?_
                          refine .c ?_ .n
                          refine effOne rfl (gNone rfl (fV (yCall rfl (.c rfl (.c rfl (.c rfl (.c rfl (.c rfl .n))))) C89 (fun w hw => knownL_any (sv0 l k x1 x2) _ _ _ _ w)) rfl)) ?_
                          refine effStep 22 [] (by kernel_rfl) closedSt (hLeft [] (by kernel_rfl) .n) ?_
                          refine .c ?_ .n
                          refine effOne rfl (gNone rfl (fStoreL 5 rfl rfl rfl rfl K58 rfl (rfl))) ?_
                          refine effDone closedSt (hLeft [] (by kernel_rfl) .n) (by kernel_rfl) ?_
                          exact kMeetX (zv1 l k r s c1 c2 x1 x2) (hmt) rfl .n (.c rfl (.c rfl (.c rfl (.c rfl (.c rfl (.c rfl (.c rfl (.c rfl (.c rfl (.c rfl (.c rfl (.c rfl .n)))))))))))) (.c 0 rfl (.c 0 rfl (.c 0 rfl (.c 0 rfl (.c 0 rfl (.c 0 rfl .r))))))
                      · refine effOne rfl (gNone rfl (fV (ySub rfl rfl (by omega)) rfl)) ?_
                        refine effStep 10 [20] (by kernel_rfl) closedSt (hLeft [0, 7, 17] (by kernel_rfl) (.c (bk 7 rfl) (.c (bk 6 rfl) (.c (bk 6 rfl) .n)))) ?_
                        refine (.c ?_ (.c ?_ .n))
                        · refine effOne rfl (gNone rfl (fV (yAdd rfl rfl (by omega)) rfl)) ?_
                          refine effStep 20 [] (by kernel_rfl) closedSt (hLeft [0, 17] (by kernel_rfl) (.c (bk 7 rfl) (.c (bk 6 rfl) .n))) ?_
                          refine .c ?_ .n
                          refine effOne rfl (gNone rfl (fV (yAdd rfl rfl (by omega)) rfl)) ?_
                          refine effStep 21 [] (by kernel_rfl) closedSt (hLeft [0] (by kernel_rfl) (.c (bk 7 rfl) .n)) ?_
                          refine .c ?_ .n
                          refine effOne rfl (gNone rfl (fV (yCall rfl (.c rfl (.c rfl (.c rfl (.c rfl (.c rfl .n))))) C89 (fun w hw => knownL_any (sv0 l k x1 x2) _ _ _ _ w)) rfl)) ?_
                          refine effStep 22 [] (by kernel_rfl) closedSt (hLeft [] (by kernel_rfl) .n) ?_
                          refine .c ?_ .n
                          refine effOne rfl (gNone rfl (fStoreL 5 rfl rfl rfl rfl K58 rfl (rfl))) ?_
                          refine effDone closedSt (hLeft [] (by kernel_rfl) .n) (by kernel_rfl) ?_
                          exact kMeetX (zv1 l k r s c1 c2 x1 x2) (hmt) rfl .n (.c rfl (.c rfl (.c rfl (.c rfl (.c rfl (.c rfl (.c rfl (.c rfl (.c rfl (.c rfl (.c rfl (.c rfl .n)))))))))))) (.c 0 rfl (.c 0 rfl (.c 0 rfl (.c 0 rfl (.c 0 rfl (.c 0 rfl .r))))))
                        · refine effOne rfl (gNone rfl (fV (yAdd rfl rfl (by omega)) rfl)) ?_
                          refine effStep 10 [] (by kernel_rfl) closedSt (hLeft [0, 7] (by kernel_rfl) (.c (bk 7 rfl) (.c (bk 6 rfl) .n))) ?_
                          refine .c ?_ .n
                          refine effOne rfl (gNone rfl (fV (yAdd rfl rfl (by omega)) rfl)) ?_
                          refine effStep 21 [] (by kernel_rfl) closedSt (hLeft [0] (by kernel_rfl) (.c (bk 7 rfl) .n)) ?_
                          refine .c ?_ .n
                          refine effOne rfl (gNone rfl (fV (yCall rfl (.c rfl (.c rfl (.c rfl (.c rfl (.c rfl .n))))) C89 (fun w hw => knownL_any (sv0 l k x1 x2) _ _ _ _ w)) rfl)) ?_
                          refine effStep 22 [] (by kernel_rfl) closedSt (hLeft [] (by kernel_rfl) .n) ?_
                          refine .c ?_ .n
                          refine effOne rfl (gNone rfl (fStoreL 5 rfl rfl rfl rfl K58 rfl (rfl))) ?_
                          refine effDone closedSt (hLeft [] (by kernel_rfl) .n) (by kernel_rfl) ?_
                          exact kMeetX (zv1 l k r s c1 c2 x1 x2) (hmt) rfl .n (.c rfl (.c rfl (.c rfl (.c rfl (.c rfl (.c rfl (.c rfl (.c rfl (.c rfl (.c rfl (.c rfl (.c rfl .n)))))))))))) (.c 0 rfl (.c 0 rfl (.c 0 rfl (.c 0 rfl (.c 0 rfl (.c 0 rfl .r))))))
                      · refine effOne rfl (gNone rfl (fV (yAdd rfl rfl (by omega)) rfl)) ?_
                        refine effStep 10 [15] (by kernel_rfl) closedSt (hLeft [0, 7, 12] (by kernel_rfl) (.c (bk 7 rfl) (.c (bk 6 rfl) (.c (bk 6 rfl) .n)))) ?_
                        refine (.c ?_ (.c ?_ .n))
                        · refine effOne rfl (gNone rfl (fV (yAdd rfl rfl (by omega)) rfl)) ?_
                          refine effStep 15 [] (by kernel_rfl) closedSt (hLeft [0, 12] (by kernel_rfl) (.c (bk 7 rfl) (.c (bk 6 rfl) .n))) ?_
                          refine .c ?_ .n
                          refine effOne rfl (gNone rfl (fV (ySub rfl rfl (by omega)) rfl)) ?_
                          refine effStep 21 [] (by kernel_rfl) closedSt (hLeft [0] (by kernel_rfl) (.c (bk 7 rfl) .n)) ?_
                          refine .c ?_ .n
                          refine effOne rfl (gNone rfl (fV (yCall rfl (.c rfl (.c rfl (.c rfl (.c rfl (.c rfl .n))))) C89 (fun w hw => knownL_any (sv0 l k x1 x2) _ _ _ _ w)) rfl)) ?_
                          refine effStep 22 [] (by kernel_rfl) closedSt (hLeft [] (by kernel_rfl) .n) ?_
                          refine .c ?_ .n
                          refine effOne rfl (gNone rfl (fStoreL 5 rfl rfl rfl rfl K58 rfl (rfl))) ?_
                          refine effDone closedSt (hLeft [] (by kernel_rfl) .n) (by kernel_rfl) ?_
                          exact kMeetX (zv1 l k r s c1 c2 x1 x2) (hmt) rfl .n (.c rfl (.c rfl (.c rfl (.c rfl (.c rfl (.c rfl (.c rfl (.c rfl (.c rfl (.c rfl (.c rfl (.c rfl .n)))))))))))) (.c 0 rfl (.c 0 rfl (.c 0 rfl (.c 0 rfl (.c 0 rfl (.c 0 rfl .r))))))
                        · refine effOne rfl (gNone rfl (fV (ySub rfl rfl (by omega)) rfl)) ?_
                          refine effStep 10 [] (by kernel_rfl) closedSt (hLeft [0, 7] (by kernel_rfl) (.c (bk 7 rfl) (.c (bk 6 rfl) .n))) ?_
                          refine .c ?_ .n
                          refine effOne rfl (gNone rfl (fV (yAdd rfl rfl (by omega)) rfl)) ?_
                          refine effStep 21 [] (by kernel_rfl) closedSt (hLeft [0] (by kernel_rfl) (.c (bk 7 rfl) .n)) ?_
                          refine .c ?_ .n
                          refine effOne rfl (gNone rfl (fV (yCall rfl (.c rfl (.c rfl (.c rfl (.c rfl (.c rfl .n))))) C89 (fun w hw => knownL_any (sv0 l k x1 x2) _ _ _ _ w)) rfl)) ?_
                          refine effStep 22 [] (by kernel_rfl) closedSt (hLeft [] (by kernel_rfl) .n) ?_
                          refine .c ?_ .n
                          refine effOne rfl (gNone rfl (fStoreL 5 rfl rfl rfl rfl K58 rfl (rfl))) ?_
                          refine effDone closedSt (hLeft [] (by kernel_rfl) .n) (by kernel_rfl) ?_
                          exact kMeetX (zv1 l k r s c1 c2 x1 x2) (hmt) rfl .n (.c rfl (.c rfl (.c rfl (.c rfl (.c rfl (.c rfl (.c rfl (.c rfl (.c rfl (.c rfl (.c rfl (.c rfl .n)))))))))))) (.c 0 rfl (.c 0 rfl (.c 0 rfl (.c 0 rfl (.c 0 rfl (.c 0 rfl .r))))))
                · refine effOne rfl (gNone rfl (eCallWM 0 rfl rfl (.c rfl .n) C92 (fun w hw hb => h8 (k := r + 1) hw hb (by omega)) trSelf)) ?_
                  refine effStep 5 [10, 14] (by kernel_rfl) closedSt (hLeft [0, 2, 7, 12, 13, 17, 18] (by kernel_rfl) (.c (bk 7 rfl) (.c (bk 6 rfl) (.c (bk 6 rfl) (.c (bk 6 rfl) (.c (bk 2 rfl) (.c (bk 6 rfl) (.c (bk 2 rfl) .n)))))))) ?_
                  refine (.c ?_ (.c ?_ (.c ?_ .n)))
                  · refine effOne rfl (gNone rfl (fV (ySub rfl rfl (by omega)) rfl)) ?_
                    refine effStep 10 [14] (by kernel_rfl) closedSt (hLeft [0, 7, 12, 13, 17, 18] (by kernel_rfl) (.c (bk 7 rfl) (.c (bk 6 rfl) (.c (bk 6 rfl) (.c (bk 2 rfl) (.c (bk 6 rfl) (.c (bk 2 rfl) .n))))))) ?_
                    refine (.c ?_ (.c ?_ .n))
                    · refine effOne rfl (gNone rfl (fV (yAdd rfl rfl (by omega)) rfl)) ?_
                      refine effStep 14 [] (by kernel_rfl) closedSt (hLeft [0, 12, 13, 17, 18] (by kernel_rfl) (.c (bk 7 rfl) (.c (bk 6 rfl) (.c (bk 2 rfl) (.c (bk 6 rfl) (.c (bk 2 rfl) .n)))))) ?_
                      refine .c ?_ .n
                      refine effOne rfl (gNone rfl (eCallWM 0 rfl rfl (.c rfl .n) C92 (fun w hw hb => h8 (k := r + 1 + 1) hw hb (by omega)) trSelf)) ?_
                      refine effStep 15 [19] (by kernel_rfl) closedSt (hLeft [0, 12, 17, 18] (by kernel_rfl) (.c (bk 7 rfl) (.c (bk 6 rfl) (.c (bk 6 rfl) (.c (bk 2 rfl) .n))))) ?_
                      refine (.c ?_ (.c ?_ .n))
                      · refine effOne rfl (gNone rfl (fV (ySub rfl rfl (by omega)) rfl)) ?_
                        refine effStep 19 [] (by kernel_rfl) closedSt (hLeft [0, 17, 18] (by kernel_rfl) (.c (bk 7 rfl) (.c (bk 6 rfl) (.c (bk 2 rfl) .n)))) ?_
                        refine .c ?_ .n
                        refine effOne rfl (gNone rfl (eCallWM 0 rfl rfl (.c rfl .n) C92 (fun w hw hb => h8 (k := r + 1 + 1 + 1) hw hb (by omega)) trSelf)) ?_
                        refine effStep 20 [] (by kernel_rfl) closedSt (hLeft [0, 17] (by kernel_rfl) (.c (bk 7 rfl) (.c (bk 6 rfl) .n))) ?_
                        refine .c ?_ .n
                        refine effOne rfl (gNone rfl (fV (yAdd rfl rfl (by omega)) rfl)) ?_
                        refine effStep 21 [] (by kernel_rfl) closedSt (hLeft [0] (by kernel_rfl) (.c (bk 7 rfl) .n)) ?_
                        refine .c ?_ .n
                        refine effOne rfl (gNone rfl (fV (yCall rfl (.c rfl (.c rfl (.c rfl (.c rfl (.c rfl .n))))) C89 (fun w hw => knownL_any (sv0 l k x1 x2) _ _ _ _ w)) rfl)) ?_
                        refine effStep 22 [] (by kernel_rfl) closedSt (hLeft [] (by kernel_rfl) .n) ?_
                        refine .c ?_ .n
                        refine effOne rfl (gNone rfl (fStoreL 5 rfl rfl rfl rfl K58 rfl (rfl))) ?_
                        refine effDone closedSt (hLeft [] (by kernel_rfl) .n) (by kernel_rfl) ?_
                        exact kMeetX (zv1 l k r s c1 c2 x1 x2) (hmt) rfl .n (.c rfl (.c rfl (.c rfl (.c rfl (.c rfl (.c rfl (.c rfl (.c rfl (.c rfl (.c rfl (.c rfl (.c rfl .n)))))))))))) (.c 0 rfl (.c 0 rfl (.c 0 rfl (.c 0 rfl (.c 0 rfl (.c 0 rfl .r))))))
                      · refine effOne rfl (gNone rfl (eCallWM 0 rfl rfl (.c rfl .n) C92 (fun w hw hb => h8 (k := r + 1 + 1 + 1) hw hb (by omega)) trSelf)) ?_
                        refine effStep 15 [20] (by kernel_rfl) closedSt (hLeft [0, 12, 17] (by kernel_rfl) (.c (bk 7 rfl) (.c (bk 6 rfl) (.c (bk 6 rfl) .n)))) ?_
                        refine (.c ?_ (.c ?_ .n))
                        · refine effOne rfl (gNone rfl (fV (ySub rfl rfl (by omega)) rfl)) ?_
                          refine effStep 20 [] (by kernel_rfl) closedSt (hLeft [0, 17] (by kernel_rfl) (.c (bk 7 rfl) (.c (bk 6 rfl) .n))) ?_
                          refine .c ?_ .n
                          refine effOne rfl (gNone rfl (fV (yAdd rfl rfl (by omega)) rfl)) ?_
                          refine effStep 21 [] (by kernel_rfl) closedSt (hLeft [0] (by kernel_rfl) (.c (bk 7 rfl) .n)) ?_
                          refine .c ?_ .n
                          refine effOne rfl (gNone rfl (fV (yCall rfl (.c rfl (.c rfl (.c rfl (.c rfl (.c rfl .n))))) C89 (fun w hw => knownL_any (sv0 l k x1 x2) _ _ _ _ w)) rfl)) ?_
                          refine effStep 22 [] (by kernel_rfl) closedSt (hLeft [] (by kernel_rfl) .n) ?_
                          refine .c ?_ .n
                          refine effOne rfl (gNone rfl (fStoreL 5 rfl rfl rfl rfl K58 rfl (rfl))) ?_
                          refine effDone closedSt (hLeft [] (by kernel_rfl) .n) (by kernel_rfl) ?_
                          exact kMeetX (zv1 l k r s c1 c2 x1 x2) (hmt) rfl .n (.c rfl (.c rfl (.c rfl (.c rfl (.c rfl (.c rfl (.c rfl (.c rfl (.c rfl (.c rfl (.c rfl (.c rfl .n)))))))))))) (.c 0 rfl (.c 0 rfl (.c 0 rfl (.c 0 rfl (.c 0 rfl (.c 0 rfl .r))))))
                        · refine effOne rfl (gNone rfl (fV (yAdd rfl rfl (by omega)) rfl)) ?_
                          refine effStep 15 [] (by kernel_rfl) closedSt (hLeft [0, 12] (by kernel_rfl) (.c (bk 7 rfl) (.c (bk 6 rfl) .n))) ?_
                          refine .c ?_ .n
                          refine effOne rfl (gNone rfl (fV (ySub rfl rfl (by omega)) rfl)) ?_
                          refine effStep 21 [] (by kernel_rfl) closedSt (hLeft [0] (by kernel_rfl) (.c (bk 7 rfl) .n)) ?_
                          refine .c ?_ .n
                          refine effOne rfl (gNone rfl (fV (yCall rfl (.c rfl (.c rfl (.c rfl (.c rfl (.c rfl .n))))) C89 (fun w hw => knownL_any (sv0 l k x1 x2) _ _ _ _ w)) rfl)) ?_
                          refine effStep 22 [] (by kernel_rfl) closedSt (hLeft [] (by kernel_rfl) .n) ?_
                          refine .c ?_ .n
                          refine effOne rfl (gNone rfl (fStoreL 5 rfl rfl rfl rfl K58 rfl (rfl))) ?_
                          refine effDone closedSt (hLeft [] (by kernel_rfl) .n) (by kernel_rfl) ?_
                          exact kMeetX (zv1 l k r s c1 c2 x1 x2) (hmt) rfl .n (.c rfl (.c rfl (.c rfl (.c rfl (.c rfl (.c rfl (.c rfl (.c rfl (.c rfl (.c rfl (.c rfl (.c rfl .n)))))))))))) (.c 0 rfl (.c 0 rfl (.c 0 rfl (.c 0 rfl (.c 0 rfl (.c 0 rfl .r))))))
                    · refine effOne rfl (gNone rfl (eCallWM 0 rfl rfl (.c rfl .n) C92 (fun w hw hb => h8 (k := r + 1 + 1) hw hb (by omega)) trSelf)) ?_
                      refine effStep 10 [15, 19] (by kernel_rfl) closedSt (hLeft [0, 7, 12, 17, 18] (by kernel_rfl) (.c (bk 7 rfl) (.c (bk 6 rfl) (.c (bk 6 rfl) (.c (bk 6 rfl) (.c (bk 2 rfl) .n)))))) ?_
                      refine (.c ?_ (.c ?_ (.c ?_ .n)))
                      · refine effOne rfl (gNone rfl (fV (yAdd rfl rfl (by omega)) rfl)) ?_
                        refine effStep 15 [19] (by kernel_rfl) closedSt (hLeft [0, 12, 17, 18] (by kernel_rfl) (.c (bk 7 rfl) (.c (bk 6 rfl) (.c (bk 6 rfl) (.c (bk 2 rfl) .n))))) ?_
                        refine (.c ?_ (.c ?_ .n))
                        · refine effOne rfl (gNone rfl (fV (ySub rfl rfl (by omega)) rfl)) ?_
                          refine effStep 19 [] (by kernel_rfl) closedSt (hLeft [0, 17, 18] (by kernel_rfl) (.c (bk 7 rfl) (.c (bk 6 rfl) (.c (bk 2 rfl) .n)))) ?_
                          refine .c ?_ .n
                          refine effOne rfl (gNone rfl (eCallWM 0 rfl rfl (.c rfl .n) C92 (fun w hw hb => h8 (k := r + 1 + 1 + 1) hw hb (by omega)) trSelf)) ?_
                          refine effStep 20 [] (by kernel_rfl) closedSt (hLeft [0, 17] (by kernel_rfl) (.c (bk 7 rfl) (.c (bk 6 rfl) .n))) ?_
                          refine .c ?_ .n
                          refine effOne rfl (gNone rfl (fV (yAdd rfl rfl (by omega)) rfl)) ?_
                          refine effStep 21 [] (by kernel_rfl) closedSt (hLeft [0] (by kernel_rfl) (.c (bk 7 rfl) .n)) ?_
                          refine .c ?_ .n
                          refine effOne rfl (gNone rfl (fV (yCall rfl (.c rfl (.c rfl (.c rfl (.c rfl (.c rfl .n))))) C89 (fun w hw => knownL_any (sv0 l k x1 x2) _ _ _ _ w)) rfl)) ?_
                          refine effStep 22 [] (by kernel_rfl) closedSt (hLeft [] (by kernel_rfl) .n) ?_
                          refine .c ?_ .n
                          refine effOne rfl (gNone rfl (fStoreL 5 rfl rfl rfl rfl K58 rfl (rfl))) ?_
                          refine effDone closedSt (hLeft [] (by kernel_rfl) .n) (by kernel_rfl) ?_
                          exact kMeetX (zv1 l k r s c1 c2 x1 x2) (hmt) rfl .n (.c rfl (.c rfl (.c rfl (.c rfl (.c rfl (.c rfl (.c rfl (.c rfl (.c rfl (.c rfl (.c rfl (.c rfl .n)))))))))))) (.c 0 rfl (.c 0 rfl (.c 0 rfl (.c 0 rfl (.c 0 rfl (.c 0 rfl .r))))))
                        · refine effOne rfl (gNone rfl (eCallWM 0 rfl rfl (.c rfl .n) C92 (fun w hw hb => h8 (k := r + 1 + 1 + 1) hw hb (by omega)) trSelf)) ?_
                          refine effStep 15 [20] (by kernel_rfl) closedSt (hLeft [0, 12, 17] (by kernel_rfl) (.c (bk 7 rfl) (.c (bk 6 rfl) (.c (bk 6 rfl) .n)))) ?_
                          refine (.c ?_ (.c ?_ .n))
                          · refine effOne rfl (gNone rfl (fV (ySub rfl rfl (by omega)) rfl)) ?_
                            refine effStep 20 [] (by kernel_rfl) closedSt (hLeft [0, 17] (by kernel_rfl) (.c (bk 7 rfl) (.c (bk 6 rfl) .n))) ?_
                            refine .c ?_ .n
                            refine effOne rfl (gNone rfl (fV (yAdd rfl rfl (by omega)) rfl)) ?_
                            refine effStep 21 [] (by kernel_rfl) closedSt (hLeft [0] (by kernel_rfl) (.c (bk 7 rfl) .n)) ?_
                            refine .c ?_ .n
                            refine effOne rfl (gNone rfl (fV (yCall rfl (.c rfl (.c rfl (.c rfl (.c rfl (.c rfl .n))))) C89 (fun w hw => knownL_any (sv0 l k x1 x2) _ _ _ _ w)) rfl)) ?_
                            refine effStep 22 [] (by kernel_rfl) closedSt (hLeft [] (by kernel_rfl) .n) ?_
                            refine .c ?_ .n
                            refine effOne rfl (gNone rfl (fStoreL 5 rfl rfl rfl rfl K58 rfl (rfl))) ?_
                            refine effDone closedSt (hLeft [] (by kernel_rfl) .n) (by kernel_rfl) ?_
                            exact kMeetX (zv1 l k r s c1 c2 x1 x2) (hmt) rfl .n (.c rfl (.c rfl (.c rfl (.c rfl (.c rfl (.c rfl (.c rfl (.c rfl (.c rfl (.c rfl (.c rfl (.c rfl .n)))))))))))) (.c 0 rfl (.c 0 rfl (.c 0 rfl (.c 0 rfl (.c 0 rfl (.c 0 rfl .r))))))
                          · refine effOne rfl (gNone rfl (fV (yAdd rfl rfl (by omega)) rfl)) ?_
                            refine effStep 15 [] (by kernel_rfl) closedSt (hLeft [0, 12] (by kernel_rfl) (.c (bk 7 rfl) (.c (bk 6 rfl) .n))) ?_
                            refine .c ?_ .n
                            refine effOne rfl (gNone rfl (fV (ySub rfl rfl (by omega)) rfl)) ?_
                            refine effStep 21 [] (by kernel_rfl) closedSt (hLeft [0] (by kernel_rfl) (.c (bk 7 rfl) .n)) ?_
                            refine .c ?_ .n
                            refine effOne rfl (gNone rfl (fV (yCall rfl (.c rfl (.c rfl (.c rfl (.c rfl (.c rfl .n))))) C89 (fun w hw => knownL_any (sv0 l k x1 x2) _ _ _ _ w)) rfl)) ?_
                            refine effStep 22 [] (by kernel_rfl) closedSt (hLeft [] (by kernel_rfl) .n) ?_
                            refine .c ?_ .n
                            refine effOne rfl (gNone rfl (fStoreL 5 rfl rfl rfl rfl K58 rfl (rfl))) ?_
                            refine effDone closedSt (hLeft [] (by kernel_rfl) .n) (by kernel_rfl) ?_
                            exact kMeetX (zv1 l k r s c1 c2 x1 x2) (hmt) rfl .n (.c rfl (.c rfl (.c rfl (.c rfl (.c rfl (.c rfl (.c rfl (.c rfl (.c rfl (.c rfl (.c rfl (.c rfl .n)))))))))))) (.c 0 rfl (.c 0 rfl (.c 0 rfl (.c 0 rfl (.c 0 rfl (.c 0 rfl .r))))))
                      · refine effOne rfl (gNone rfl (fV (ySub rfl rfl (by omega)) rfl)) ?_
                        refine effStep 10 [19] (by kernel_rfl) closedSt (hLeft [0, 7, 17, 18] (by kernel_rfl) (.c (bk 7 rfl) (.c (bk 6 rfl) (.c (bk 6 rfl) (.c (bk 2 rfl) .n))))) ?_
                        refine (.c ?_ (.c ?_ .n))
                        · refine effOne rfl (gNone rfl (fV (yAdd rfl rfl (by omega)) rfl)) ?_
                          refine effStep 19 [] (by kernel_rfl) closedSt (hLeft [0, 17, 18] (by kernel_rfl) (.c (bk 7 rfl) (.c (bk 6 rfl) (.c (bk 2 rfl) .n)))) ?_
                          refine .c ?_ .n
                          refine effOne rfl (gNone rfl (eCallWM 0 rfl rfl (.c rfl .n) C92 (fun w hw hb => h8 (k := r + 1 + 1 + 1) hw hb (by omega)) trSelf)) ?_
                          refine effStep 20 [] (by kernel_rfl) closedSt (hLeft [0, 17] (by kernel_rfl) (.c (bk 7 rfl) (.c (bk 6 rfl) .n))) ?_
                          refine .c ?_ .n
                          refine effOne rfl (gNone rfl (fV (yAdd rfl rfl (by omega)) rfl)) ?_
                          refine effStep 21 [] (by kernel_rfl) closedSt (hLeft [0] (by kernel_rfl) (.c (bk 7 rfl) .n)) ?_
                          refine .c ?_ .n
                          refine effOne rfl (gNone rfl (fV (yCall rfl (.c rfl (.c rfl (.c rfl (.c rfl (.c rfl .n))))) C89 (fun w hw => knownL_any (sv0 l k x1 x2) _ _ _ _ w)) rfl)) ?_
                          refine effStep 22 [] (by kernel_rfl) closedSt (hLeft [] (by kernel_rfl) .n) ?_
                          refine .c ?_ .n
                          refine effOne rfl (gNone rfl (fStoreL 5 rfl rfl rfl rfl K58 rfl (rfl))) ?_
                          refine effDone closedSt (hLeft [] (by kernel_rfl) .n) (by kernel_rfl) ?_
                          exact kMeetX (zv1 l k r s c1 c2 x1 x2) (hmt) rfl .n (.c rfl (.c rfl (.c rfl (.c rfl (.c rfl (.c rfl (.c rfl (.c rfl (.c rfl (.c rfl (.c rfl (.c rfl .n)))))))))))) (.c 0 rfl (.c 0 rfl (.c 0 rfl (.c 0 rfl (.c 0 rfl (.c 0 rfl .r))))))
                        · refine effOne rfl (gNone rfl (eCallWM 0 rfl rfl (.c rfl .n) C92 (fun w hw hb => h8 (k := r + 1 + 1 + 1) hw hb (by omega)) trSelf)) ?_
                          refine effStep 10 [20] (by kernel_rfl) closedSt (hLeft [0, 7, 17] (by kernel_rfl) (.c (bk 7 rfl) (.c (bk 6 rfl) (.c (bk 6 rfl) .n)))) ?_
                          refine (.c ?_ (.c ?_ .n))
                          · refine effOne rfl (gNone rfl (fV (yAdd rfl rfl (by omega)) rfl)) ?_
                            refine effStep 20 [] (by kernel_rfl) closedSt (hLeft [0, 17] (by kernel_rfl) (.c (bk 7 rfl) (.c (bk 6 rfl) .n))) ?_
                            refine .c ?_ .n
                            refine effOne rfl (gNone rfl (fV (yAdd rfl rfl (by omega)) rfl)) ?_
                            refine effStep 21 [] (by kernel_rfl) closedSt (hLeft [0] (by kernel_rfl) (.c (bk 7 rfl) .n)) ?_
                            refine .c ?_ .n
                            refine effOne rfl (gNone rfl (fV (yCall rfl (.c rfl (.c rfl (.c rfl (.c rfl (.c rfl .n))))) C89 (fun w hw => knownL_any (sv0 l k x1 x2) _ _ _ _ w)) rfl)) ?_
                            refine effStep 22 [] (by kernel_rfl) closedSt (hLeft [] (by kernel_rfl) .n) ?_
                            refine .c ?_ .n
                            refine effOne rfl (gNone rfl (fStoreL 5 rfl rfl rfl rfl K58 rfl (rfl))) ?_
                            refine effDone closedSt (hLeft [] (by kernel_rfl) .n) (by kernel_rfl) ?_
                            exact kMeetX (zv1 l k r s c1 c2 x1 x2) (hmt) rfl .n (.c rfl (.c rfl (.c rfl (.c rfl (.c rfl (.c rfl (.c rfl (.c rfl (.c rfl (.c rfl (.c rfl (.c rfl .n)))))))))))) (.c 0 rfl (.c 0 rfl (.c 0 rfl (.c 0 rfl (.c 0 rfl (.c 0 rfl .r))))))
                          · refine effOne rfl (gNone rfl (fV (yAdd rfl rfl (by omega)) rfl)) ?_
                            refine effStep 10 [] (by kernel_rfl) closedSt (hLeft [0, 7] (by kernel_rfl) (.c (bk 7 rfl) (.c (bk 6 rfl) .n))) ?_
                            refine .c ?_ .n
                            refine effOne rfl (gNone rfl (fV (yAdd rfl rfl (by omega)) rfl)) ?_
                            refine effStep 21 [] (by kernel_rfl) closedSt (hLeft [0] (by kernel_rfl) (.c (bk 7 rfl) .n)) ?_
                            refine .c ?_ .n
                            refine effOne rfl (gNone rfl (fV (yCall rfl (.c rfl (.c rfl (.c rfl (.c rfl (.c rfl .n))))) C89 (fun w hw => knownL_any (sv0 l k x1 x2) _ _ _ _ w)) rfl)) ?_
                            refine effStep 22 [] (by kernel_rfl) closedSt (hLeft [] (by kernel_rfl) .n) ?_
                            refine .c ?_ .n
                            refine effOne rfl (gNone rfl (fStoreL 5 rfl rfl rfl rfl K58 rfl (rfl))) ?_
                            refine effDone closedSt (hLeft [] (by kernel_rfl) .n) (by kernel_rfl) ?_
                            exact kMeetX (zv1 l k r s c1 c2 x1 x2) (hmt) rfl .n (.c rfl (.c rfl (.c rfl (.c rfl (.c rfl (.c rfl (.c rfl (.c rfl (.c rfl (.c rfl (.c rfl (.c rfl .n)))))))))))) (.c 0 rfl (.c 0 rfl (.c 0 rfl (.c 0 rfl (.c 0 rfl (.c 0 rfl .r))))))
                      · refine effOne rfl (gNone rfl (eCallWM 0 rfl rfl (.c rfl .n) C92 (fun w hw hb => h8 (k := r + 1 + 1 + 1) hw hb (by omega)) trSelf)) ?_
                        refine effStep 10 [15, 20] (by kernel_rfl) closedSt (hLeft [0, 7, 12, 17] (by kernel_rfl) (.c (bk 7 rfl) (.c (bk 6 rfl) (.c (bk 6 rfl) (.c (bk 6 rfl) .n))))) ?_
                        refine (.c ?_ (.c ?_ (.c ?_ .n)))
                        · refine effOne rfl (gNone rfl (fV (yAdd rfl rfl (by omega)) rfl)) ?_
                          refine effStep 15 [20] (by kernel_rfl) closedSt (hLeft [0, 12, 17] (by kernel_rfl) (.c (bk 7 rfl) (.c (bk 6 rfl) (.c (bk 6 rfl) .n)))) ?_
                          refine (.c ?_ (.c ?_ .n))
                          · refine effOne rfl (gNone rfl (fV (ySub rfl rfl (by omega)) rfl)) ?_
                            refine effStep 20 [] (by kernel_rfl) closedSt (hLeft [0, 17] (by kernel_rfl) (.c (bk 7 rfl) (.c (bk 6 rfl) .n))) ?_
                            refine .c ?_ .n
                            refine effOne rfl (gNone rfl (fV (yAdd rfl rfl (by omega)) rfl)) ?_
                            refine effStep 21 [] (by kernel_rfl) closedSt (hLeft [0] (by kernel_rfl) (.c (bk 7 rfl) .n)) ?_
                            refine .c ?_ .n
                            refine effOne rfl (gNone rfl (fV (yCall rfl (.c rfl (.c rfl (.c rfl (.c rfl (.c rfl .n))))) C89 (fun w hw => knownL_any (sv0 l k x1 x2) _ _ _ _ w)) rfl)) ?_
                            refine effStep 22 [] (by kernel_rfl) closedSt (hLeft [] (by kernel_rfl) .n) ?_
                            refine .c ?_ .n
                            refine effOne rfl (gNone rfl (fStoreL 5 rfl rfl rfl rfl K58 rfl (rfl))) ?_
                            refine effDone closedSt (hLeft [] (by kernel_rfl) .n) (by kernel_rfl) ?_
                            exact kMeetX (zv1 l k r s c1 c2 x1 x2) (hmt) rfl .n (.c rfl (.c rfl (.c rfl (.c rfl (.c rfl (.c rfl (.c rfl (.c rfl (.c rfl (.c rfl (.c rfl (.c rfl .n)))))))))))) (.c 0 rfl (.c 0 rfl (.c 0 rfl (.c 0 rfl (.c 0 rfl (.c 0 rfl .r))))))
                          · refine effOne rfl (gNone rfl (fV (yAdd rfl rfl (by omega)) rfl)) ?_
                            refine effStep 15 [] (by kernel_rfl) closedSt (hLeft [0, 12] (by kernel_rfl) (.c (bk 7 rfl) (.c (bk 6 rfl) .n))) ?_
                            refine .c ?_ .n
                            refine effOne rfl (gNone rfl (fV (ySub rfl rfl (by omega)) rfl)) ?_
                            refine effStep 21 [] (by kernel_rfl) closedSt (hLeft [0] (by kernel_rfl) (.c (bk 7 rfl) .n)) ?_
                            refine .c ?_ .n
                            refine effOne rfl (gNone rfl (fV (yCall rfl (.c rfl (.c rfl (.c rfl (.c rfl (.c rfl .n))))) C89 (fun w hw => knownL_any (sv0 l k x1 x2) _ _ _ _ w)) rfl)) ?_
                            refine effStep 22 [] (by kernel_rfl) closedSt (hLeft [] (by kernel_rfl) .n) ?_
                            refine .c ?_ .n
                            refine effOne rfl (gNone rfl (fStoreL 5 rfl rfl rfl rfl K58 rfl (rfl))) ?_
                            refine effDone closedSt (hLeft [] (by kernel_rfl) .n) (by kernel_rfl) ?_
                            exact kMeetX (zv1 l k r s c1 c2 x1 x2) (hmt) rfl .n (.c rfl (.c rfl (.c rfl (.c rfl (.c rfl (.c rfl (.c rfl (.c rfl (.c rfl (.c rfl (.c rfl (.c rfl .n)))))))))))) (.c 0 rfl (.c 0 rfl (.c 0 rfl (.c 0 rfl (.c 0 rfl (.c 0 rfl .r))))))
                        · refine effOne rfl (gNone rfl (fV (ySub rfl rfl (by omega)) rfl)) ?_
                          refine effStep 10 [20] (by kernel_rfl) closedSt (hLeft [0, 7, 17] (by kernel_rfl) (.c (bk 7 rfl) (.c (bk 6 rfl) (.c (bk 6 rfl) .n)))) ?_
                          refine (.c ?_ (.c ?_ .n))
                          · refine effOne rfl (gNone rfl (fV (yAdd rfl rfl (by omega)) rfl)) ?_
                            refine effStep 20 [] (by kernel_rfl) closedSt (hLeft [0, 17] (by kernel_rfl) (.c (bk 7 rfl) (.c (bk 6 rfl) .n))) ?_
                            refine .c ?_ .n
                            refine effOne rfl (gNone rfl (fV (yAdd rfl rfl (by omega)) rfl)) ?_
                            refine effStep 21 [] (by kernel_rfl) closedSt (hLeft [0] (by kernel_rfl) (.c (bk 7 rfl) .n)) ?_
                            refine .c ?_ .n
                            refine effOne rfl (gNone rfl (fV (yCall rfl (.c rfl (.c rfl (.c rfl (.c rfl (.c rfl .n))))) C89 (fun w hw => knownL_any (sv0 l k x1 x2) _ _ _ _ w)) rfl)) ?_
                            refine effStep 22 [] (by kernel_rfl) closedSt (hLeft [] (by kernel_rfl) .n) ?_
                            refine .c ?_ .n
                            refine effOne rfl (gNone rfl (fStoreL 5 rfl rfl rfl rfl K58 rfl (rfl))) ?_
                            refine effDone closedSt (hLeft [] (by kernel_rfl) .n) (by kernel_rfl) ?_
                            exact kMeetX (zv1 l k r s c1 c2 x1 x2) (hmt) rfl .n (.c rfl (.c rfl (.c rfl (.c rfl (.c rfl (.c rfl (.c rfl (.c rfl (.c rfl (.c rfl (.c rfl (.c rfl .n)))))))))))) (.c 0 rfl (.c 0 rfl (.c 0 rfl (.c 0 rfl (.c 0 rfl (.c 0 rfl .r))))))
                          · refine effOne rfl (gNone rfl (fV (yAdd rfl rfl (by omega)) rfl)) ?_
                            refine effStep 10 [] (by kernel_rfl) closedSt (hLeft [0, 7] (by kernel_rfl) (.c (bk 7 rfl) (.c (bk 6 rfl) .n))) ?_
                            refine .c ?_ .n
                            refine effOne rfl (gNone rfl (fV (yAdd rfl rfl (by omega)) rfl)) ?_
                            refine effStep 21 [] (by kernel_rfl) closedSt (hLeft [0] (by kernel_rfl) (.c (bk 7 rfl) .n)) ?_
                            refine .c ?_ .n
                            refine effOne rfl (gNone rfl (fV (yCall rfl (.c rfl (.c rfl (.c rfl (.c rfl (.c rfl .n))))) C89 (fun w hw => knownL_any (sv0 l k x1 x2) _ _ _ _ w)) rfl)) ?_
                            refine effStep 22 [] (by kernel_rfl) closedSt (hLeft [] (by kernel_rfl) .n) ?_
                            refine .c ?_ .n
                            refine effOne rfl (gNone rfl (fStoreL 5 rfl rfl rfl rfl K58 rfl (rfl))) ?_
                            refine effDone closedSt (hLeft [] (by kernel_rfl) .n) (by kernel_rfl) ?_
                            exact kMeetX (zv1 l k r s c1 c2 x1 x2) (hmt) rfl .n (.c rfl (.c rfl (.c rfl (.c rfl (.c rfl (.c rfl (.c rfl (.c rfl (.c rfl (.c rfl (.c rfl (.c rfl .n)))))))))))) (.c 0 rfl (.c 0 rfl (.c 0 rfl (.c 0 rfl (.c 0 rfl (.c 0 rfl .r))))))
                        · refine effOne rfl (gNone rfl (fV (yAdd rfl rfl (by omega)) rfl)) ?_
                          refine effStep 10 [15] (by kernel_rfl) closedSt (hLeft [0, 7, 12] (by kernel_rfl) (.c (bk 7 rfl) (.c (bk 6 rfl) (.c (bk 6 rfl) .n)))) ?_
                          refine (.c ?_ (.c ?_ .n))
                          · refine effOne rfl (gNone rfl (fV (yAdd rfl rfl (by omega)) rfl)) ?_
                            refine effStep 15 [] (by kernel_rfl) closedSt (hLeft [0, 12] (by kernel_rfl) (.c (bk 7 rfl) (.c (bk 6 rfl) .n))) ?_
                            refine .c ?_ .n
                            refine effOne rfl (gNone rfl (fV (ySub rfl rfl (by omega)) rfl)) ?_
                            refine effStep 21 [] (by kernel_rfl) closedSt (hLeft [0] (by kernel_rfl) (.c (bk 7 rfl) .n)) ?_
                            refine .c ?_ .n
                            refine effOne rfl (gNone rfl (fV (yCall rfl (.c rfl (.c rfl (.c rfl (.c rfl (.c rfl .n))))) C89 (fun w hw => knownL_any (sv0 l k x1 x2) _ _ _ _ w)) rfl)) ?_
                            refine effStep 22 [] (by kernel_rfl) closedSt (hLeft [] (by kernel_rfl) .n) ?_
                            refine .c ?_ .n
                            refine effOne rfl (gNone rfl (fStoreL 5 rfl rfl rfl rfl K58 rfl (rfl))) ?_
                            refine effDone closedSt (hLeft [] (by kernel_rfl) .n) (by kernel_rfl) ?_
                            exact kMeetX (zv1 l k r s c1 c2 x1 x2) (hmt) rfl .n (.c rfl (.c rfl (.c rfl (.c rfl (.c rfl (.c rfl (.c rfl (.c rfl (.c rfl (.c rfl (.c rfl (.c rfl .n)))))))))))) (.c 0 rfl (.c 0 rfl (.c 0 rfl (.c 0 rfl (.c 0 rfl (.c 0 rfl .r))))))
                          · refine effOne rfl (gNone rfl (fV (ySub rfl rfl (by omega)) rfl)) ?_
                            refine effStep 10 [] (by kernel_rfl) closedSt (hLeft [0, 7] (by kernel_rfl) (.c (bk 7 rfl) (.c (bk 6 rfl) .n))) ?_
                            refine .c ?_ .n
                            refine effOne rfl (gNone rfl (fV (yAdd rfl rfl (by omega)) rfl)) ?_
                            refine effStep 21 [] (by kernel_rfl) closedSt (hLeft [0] (by kernel_rfl) (.c (bk 7 rfl) .n)) ?_
                            refine .c ?_ .n
                            refine effOne rfl (gNone rfl (fV (yCall rfl (.c rfl (.c rfl (.c rfl (.c rfl (.c rfl .n))))) C89 (fun w hw => knownL_any (sv0 l k x1 x2) _ _ _ _ w)) rfl)) ?_
                            refine effStep 22 [] (by kernel_rfl) closedSt (hLeft [] (by kernel_rfl) .n) ?_
                            refine .c ?_ .n
                            refine effOne rfl (gNone rfl (fStoreL 5 rfl rfl rfl rfl K58 rfl (rfl))) ?_
                            refine effDone closedSt (hLeft [] (by kernel_rfl) .n) (by kernel_rfl) ?_
                            exact kMeetX (zv1 l k r s c1 c2 x1 x2) (hmt) rfl .n (.c rfl (.c rfl (.c rfl (.c rfl (.c rfl (.c rfl (.c rfl (.c rfl (.c rfl (.c rfl (.c rfl (.c rfl .n)))))))))))) (.c 0 rfl (.c 0 rfl (.c 0 rfl (.c 0 rfl (.c 0 rfl (.c 0 rfl .r))))))
                  · refine effOne rfl (gNone rfl (fV (yAdd rfl rfl (by omega)) rfl)) ?_
                    refine effStep 5 [14] (by kernel_rfl) closedSt (hLeft [0, 2, 12, 13, 17, 18] (by kernel_rfl) (.c (bk 7 rfl) (.c (bk 6 rfl) (.c (bk 6 rfl) (.c (bk 2 rfl) (.c (bk 6 rfl) (.c (bk 2 rfl) .n))))))) ?_
                    refine (.c ?_ (.c ?_ .n))
                    · refine effOne rfl (gNone rfl (fV (ySub rfl rfl (by omega)) rfl)) ?_
                      refine effStep 14 [] (by kernel_rfl) closedSt (hLeft [0, 12, 13, 17, 18] (by kernel_rfl) (.c (bk 7 rfl) (.c (bk 6 rfl) (.c (bk 2 rfl) (.c (bk 6 rfl) (.c (bk 2 rfl) .n)))))) ?_
                      refine .c ?_ .n
                      refine effOne rfl (gNone rfl (eCallWM 0 rfl rfl (.c rfl .n) C92 (fun w hw hb => h8 (k := r + 1 + 1) hw hb (by omega)) trSelf)) ?_
                      refine effStep 15 [19] (by kernel_rfl) closedSt (hLeft [0, 12, 17, 18] (by kernel_rfl) (.c (bk 7 rfl) (.c (bk 6 rfl) (.c (bk 6 rfl) (.c (bk 2 rfl) .n))))) ?_
                      refine (.c ?_ (.c ?_ .n))
                      · refine effOne rfl (gNone rfl (fV (ySub rfl rfl (by omega)) rfl)) ?_
                        refine effStep 19 [] (by kernel_rfl) closedSt (hLeft [0, 17, 18] (by kernel_rfl) (.c (bk 7 rfl) (.c (bk 6 rfl) (.c (bk 2 rfl) .n)))) ?_
                        refine .c ?_ .n
                        refine effOne rfl (gNone rfl (eCallWM 0 rfl rfl (.c rfl .n) C92 (fun w hw hb => h8 (k := r + 1 + 1 + 1) hw hb (by omega)) trSelf)) ?_
                        refine effStep 20 [] (by kernel_rfl) closedSt (hLeft [0, 17] (by kernel_rfl) (.c (bk 7 rfl) (.c (bk 6 rfl) .n))) ?_
                        refine .c ?_ .n
                        refine effOne rfl (gNone rfl (fV (yAdd rfl rfl (by omega)) rfl)) ?_
                        refine effStep 21 [] (by kernel_rfl) closedSt (hLeft [0] (by kernel_rfl) (.c (bk 7 rfl) .n)) ?_
                        refine .c ?_ .n
                        refine effOne rfl (gNone rfl (fV (yCall rfl (.c rfl (.c rfl (.c rfl (.c rfl (.c rfl .n))))) C89 (fun w hw => knownL_any (sv0 l k x1 x2) _ _ _ _ w)) rfl)) ?_
                        refine effStep 22 [] (by kernel_rfl) closedSt (hLeft [] (by kernel_rfl) .n) ?_
                        refine .c ?_ .n
                        refine effOne rfl (gNone rfl (fStoreL 5 rfl rfl rfl rfl K58 rfl (rfl))) ?_
                        refine effDone closedSt (hLeft [] (by kernel_rfl) .n) (by kernel_rfl) ?_
                        exact kMeetX (zv1 l k r s c1 c2 x1 x2) (hmt) rfl .n (.c rfl (.c rfl (.c rfl (.c rfl (.c rfl (.c rfl (.c rfl (.c rfl (.c rfl (.c rfl (.c rfl (.c rfl .n)))))))))))) (.c 0 rfl (.c 0 rfl (.c 0 rfl (.c 0 rfl (.c 0 rfl (.c 0 rfl .r))))))
                      · refine effOne rfl (gNone rfl (eCallWM 0 rfl rfl (.c rfl .n) C92 (fun w hw hb => h8 (k := r + 1 + 1 + 1) hw hb (by omega)) trSelf)) ?_
                        refine effStep 15 [20] (by kernel_rfl) closedSt (hLeft [0, 12, 17] (by kernel_rfl) (.c (bk 7 rfl) (.c (bk 6 rfl) (.c (bk 6 rfl) .n)))) ?_
                        refine (.c ?_ (.c ?_ .n))
                        · refine effOne rfl (gNone rfl (fV (ySub rfl rfl (by omega)) rfl)) ?_
                          refine effStep 20 [] (by kernel_rfl) closedSt (hLeft [0, 17] (by kernel_rfl) (.c (bk 7 rfl) (.c (bk 6 rfl) .n))) ?_
                          refine .c ?_ .n
                          refine effOne rfl (gNone rfl (fV (yAdd rfl rfl (by omega)) rfl)) ?_
                          refine effStep 21 [] (by kernel_rfl) closedSt (hLeft [0] (by kernel_rfl) (.c (bk 7 rfl) .n)) ?_
                          refine .c ?_ .n
                          refine effOne rfl (gNone rfl (fV (yCall rfl (.c rfl (.c rfl (.c rfl (.c rfl (.c rfl .n))))) C89 (fun w hw => knownL_any (sv0 l k x1 x2) _ _ _ _ w)) rfl)) ?_
                          refine effStep 22 [] (by kernel_rfl) closedSt (hLeft [] (by kernel_rfl) .n) ?_
                          refine .c ?_ .n
                          refine effOne rfl (gNone rfl (fStoreL 5 rfl rfl rfl rfl K58 rfl (rfl))) ?_
                          refine effDone closedSt (hLeft [] (by kernel_rfl) .n) (by kernel_rfl) ?_
                          exact kMeetX (zv1 l k r s c1 c2 x1 x2) (hmt) rfl .n (.c rfl (.c rfl (.c rfl (.c rfl (.c rfl (.c rfl (.c rfl (.c rfl (.c rfl (.c rfl (.c rfl (.c rfl .n)))))))))))) (.c 0 rfl (.c 0 rfl (.c 0 rfl (.c 0 rfl (.c 0 rfl (.c 0 rfl .r))))))
                        · refine effOne rfl (gNone rfl (fV (yAdd rfl rfl (by omega)) rfl)) ?_
                          refine effStep 15 [] (by kernel_rfl) closedSt (hLeft [0, 12] (by kernel_rfl) (.c (bk 7 rfl) (.c (bk 6 rfl) .n))) ?_
                          refine .c ?_ .n
                          refine effOne rfl (gNone rfl (fV (ySub rfl rfl (by omega)) rfl)) ?_
                          refine effStep 21 [] (by kernel_rfl) closedSt (hLeft [0] (by kernel_rfl) (.c (bk 7 rfl) .n)) ?_
                          refine .c ?_ .n
                          refine effOne rfl (gNone rfl (fV (yCall rfl (.c rfl (.c rfl (.c rfl (.c rfl (.c rfl .n))))) C89 (fun w hw => knownL_any (sv0 l k x1 x2) _ _ _ _ w)) rfl)) ?_
                          refine effStep 22 [] (by kernel_rfl) closedSt (hLeft [] (by kernel_rfl) .n) ?_
                          refine .c ?_ .n
                          refine effOne rfl (gNone rfl (fStoreL 5 rfl rfl rfl rfl K58 rfl (rfl))) ?_
                          refine effDone closedSt (hLeft [] (by kernel_rfl) .n) (by kernel_rfl) ?_
                          exact kMeetX (zv1 l k r s c1 c2 x1 x2) (hmt) rfl .n (.c rfl (.c rfl (.c rfl (.c rfl (.c rfl (.c rfl (.c rfl (.c rfl (.c rfl (.c rfl (.c rfl (.c rfl .n)))))))))))) (.c 0 rfl (.c 0 rfl (.c 0 rfl (.c 0 rfl (.c 0 rfl (.c 0 rfl .r))))))
                    · refine effOne rfl (gNone rfl (eCallWM 0 rfl rfl (.c rfl .n) C92 (fun w hw hb => h8 (k := r + 1 + 1) hw hb (by omega)) trSelf)) ?_
                      refine effStep 5 [15, 19] (by kernel_rfl) closedSt (hLeft [0, 2, 12, 17, 18] (by kernel_rfl) (.c (bk 7 rfl) (.c (bk 6 rfl) (.c (bk 6 rfl) (.c (bk 6 rfl) (.c (bk 2 rfl) .n)))))) ?_
                      refine (.c ?_ (.c ?_ (.c ?_ .n)))
                      · refine effOne rfl (gNone rfl (fV (ySub rfl rfl (by omega)) rfl)) ?_
                        refine effStep 15 [19] (by kernel_rfl) closedSt (hLeft [0, 12, 17, 18] (by kernel_rfl) (.c (bk 7 rfl) (.c (bk 6 rfl) (.c (bk 6 rfl) (.c (bk 2 rfl) .n))))) ?_
                        refine (.c ?_ (.c ?_ .n))
                        · refine effOne rfl (gNone rfl (fV (ySub rfl rfl (by omega)) rfl)) ?_
                          refine effStep 19 [] (by kernel_rfl) closedSt (hLeft [0, 17, 18] (by kernel_rfl) (.c (bk 7 rfl) (.c (bk 6 rfl) (.c (bk 2 rfl) .n)))) ?_
                          refine .c ?_ .n
                          refine effOne rfl (gNone rfl (eCallWM 0 rfl rfl (.c rfl .n) C92 (fun w hw hb => h8 (k := r + 1 + 1 + 1) hw hb (by omega)) trSelf)) ?_
                          refine effStep 20 [] (by kernel_rfl) closedSt (hLeft [0, 17] (by kernel_rfl) (.c (bk 7 rfl) (.c (bk 6 rfl) .n))) ?_
                          refine .c ?_ .n
                          refine effOne rfl (gNone rfl (fV (yAdd rfl rfl (by omega)) rfl)) ?_
                          refine effStep 21 [] (by kernel_rfl) closedSt (hLeft [0] (by kernel_rfl) (.c (bk 7 rfl) .n)) ?_
                          refine .c ?_ .n
                          refine effOne rfl (gNone rfl (fV (yCall rfl (.c rfl (.c rfl (.c rfl (.c rfl (.c rfl .n))))) C89 (fun w hw => knownL_any (sv0 l k x1 x2) _ _ _ _ w)) rfl)) ?_
                          refine effStep 22 [] (by kernel_rfl) closedSt (hLeft [] (by kernel_rfl) .n) ?_
                          refine .c ?_ .n
                          refine effOne rfl (gNone rfl (fStoreL 5 rfl rfl rfl rfl K58 rfl (rfl))) ?_
                          refine effDone closedSt (hLeft [] (by kernel_rfl) .n) (by kernel_rfl) ?_
                          exact kMeetX (zv1 l k r s c1 c2 x1 x2) (hmt) rfl .n (.c rfl (.c rfl (.c rfl (.c rfl (.c rfl (.c rfl (.c rfl (.c rfl (.c rfl (.c rfl (.c rfl (.c rfl .n)))))))))))) (.c 0 rfl (.c 0 rfl (.c 0 rfl (.c 0 rfl (.c 0 rfl (.c 0 rfl .r))))))
                        · refine effOne rfl (gNone rfl (eCallWM 0 rfl rfl (.c rfl .n) C92 (fun w hw hb => h8 (k := r + 1 + 1 + 1) hw hb (by omega)) trSelf)) ?_
                          refine effStep 15 [20] (by kernel_rfl) closedSt (hLeft [0, 12, 17] (by kernel_rfl) (.c (bk 7 rfl) (.c (bk 6 rfl) (.c (bk 6 rfl) .n)))) ?_
                          refine (.c ?_ (.c ?_ .n))
                          · refine effOne rfl (gNone rfl (fV (ySub rfl rfl (by omega)) rfl)) ?_
                            refine effStep 20 [] (by kernel_rfl) closedSt (hLeft [0, 17] (by kernel_rfl) (.c (bk 7 rfl) (.c (bk 6 rfl) .n))) ?_
                            refine .c ?_ .n
                            refine effOne rfl (gNone rfl (fV (yAdd rfl rfl (by omega)) rfl)) ?_
                            refine effStep 21 [] (by kernel_rfl) closedSt (hLeft [0] (by kernel_rfl) (.c (bk 7 rfl) .n)) ?_
                            refine .c ?_ .n
                            refine effOne rfl (gNone rfl (fV (yCall rfl (.c rfl (.c rfl (.c rfl (.c rfl (.c rfl .n))))) C89 (fun w hw => knownL_any (sv0 l k x1 x2) _ _ _ _ w)) rfl)) ?_
                            refine effStep 22 [] (by kernel_rfl) closedSt (hLeft [] (by kernel_rfl) .n) ?_
                            refine .c ?_ .n
                            refine effOne rfl (gNone rfl (fStoreL 5 rfl rfl rfl rfl K58 rfl (rfl))) ?_
                            refine effDone closedSt (hLeft [] (by kernel_rfl) .n) (by kernel_rfl) ?_
                            exact kMeetX (zv1 l k r s c1 c2 x1 x2) (hmt) rfl .n (.c rfl (.c rfl (.c rfl (.c rfl (.c rfl (.c rfl (.c rfl (.c rfl (.c rfl (.c rfl (.c rfl (.c rfl .n)))))))))))) (.c 0 rfl (.c 0 rfl (.c 0 rfl (.c 0 rfl (.c 0 rfl (.c 0 rfl .r))))))
                          · refine effOne rfl (gNone rfl (fV (yAdd rfl rfl (by omega)) rfl)) ?_
                            refine effStep 15 [] (by kernel_rfl) closedSt (hLeft [0, 12] (by kernel_rfl) (.c (bk 7 rfl) (.c (bk 6 rfl) .n))) ?_
                            refine .c ?_ .n
                            refine effOne rfl (gNone rfl (fV (ySub rfl rfl (by omega)) rfl)) ?_
                            refine effStep 21 [] (by kernel_rfl) closedSt (hLeft [0] (by kernel_rfl) (.c (bk 7 rfl) .n)) ?_
                            refine .c ?_ .n
                            refine effOne rfl (gNone rfl (fV (yCall rfl (.c rfl (.c rfl (.c rfl (.c rfl (.c rfl .n))))) C89 (fun w hw => knownL_any (sv0 l k x1 x2) _ _ _ _ w)) rfl)) ?_
                            refine effStep 22 [] (by kernel_rfl) closedSt (hLeft [] (by kernel_rfl) .n) ?_
                            refine .c ?_ .n
                            refine effOne rfl (gNone rfl (fStoreL 5 rfl rfl rfl rfl K58 rfl (rfl))) ?_
                            refine effDone closedSt (hLeft [] (by kernel_rfl) .n) (by kernel_rfl) ?_
                            exact kMeetX (zv1 l k r s c1 c2 x1 x2) (hmt) rfl .n (.c rfl (.c rfl (.c rfl (.c rfl (.c rfl (.c rfl (.c rfl (.c rfl (.c rfl (.c rfl (.c rfl (.c rfl .n)))))))))))) (.c 0 rfl (.c 0 rfl (.c 0 rfl (.c 0 rfl (.c 0 rfl (.c 0 rfl .r))))))
                      · refine effOne rfl (gNone rfl (fV (ySub rfl rfl (by omega)) rfl)) ?_
                        refine effStep 5 [19] (by kernel_rfl) closedSt (hLeft [0, 2, 17, 18] (by kernel_rfl) (.c (bk 7 rfl) (.c (bk 6 rfl) (.c (bk 6 rfl) (.c (bk 2 rfl) .n))))) ?_
                        refine (.c ?_ (.c ?_ .n))
                        · refine effOne rfl (gNone rfl (fV (ySub rfl rfl (by omega)) rfl)) ?_
                          refine effStep 19 [] (by kernel_rfl) closedSt (hLeft [0, 17, 18] (by kernel_rfl) (.c (bk 7 rfl) (.c (bk 6 rfl) (.c (bk 2 rfl) .n)))) ?_
                          refine .c ?_ .n
                          refine effOne rfl (gNone rfl (eCallWM 0 rfl rfl (.c rfl .n) C92 (fun w hw hb => h8 (k := r + 1 + 1 + 1) hw hb (by omega)) trSelf)) ?_
                          refine effStep 20 [] (by kernel_rfl) closedSt (hLeft [0, 17] (by kernel_rfl) (.c (bk 7 rfl) (.c (bk 6 rfl) .n))) ?_
                          refine .c ?_ .n
                          refine effOne rfl (gNone rfl (fV (yAdd rfl rfl (by omega)) rfl)) ?_
                          refine effStep 21 [] (by kernel_rfl) closedSt (hLeft [0] (by kernel_rfl) (.c (bk 7 rfl) .n)) ?_
                          refine .c ?_ .n
                          refine effOne rfl (gNone rfl (fV (yCall rfl (.c rfl (.c rfl (.c rfl (.c rfl (.c rfl .n))))) C89 (fun w hw => knownL_any (sv0 l k x1 x2) _ _ _ _ w)) rfl)) ?_
                          refine effStep 22 [] (by kernel_rfl) closedSt (hLeft [] (by kernel_rfl) .n) ?_
                          refine .c ?_ .n
                          refine effOne rfl (gNone rfl (fStoreL 5 rfl rfl rfl rfl K58 rfl (rfl))) ?_
                          refine effDone closedSt (hLeft [] (by kernel_rfl) .n) (by kernel_rfl) ?_
                          exact kMeetX (zv1 l k r s c1 c2 x1 x2) (hmt) rfl .n (.c rfl (.c rfl (.c rfl (.c rfl (.c rfl (.c rfl (.c rfl (.c rfl (.c rfl (.c rfl (.c rfl (.c rfl .n)))))))))))) (.c 0 rfl (.c 0 rfl (.c 0 rfl (.c 0 rfl (.c 0 rfl (.c 0 rfl .r))))))
                        · refine effOne rfl (gNone rfl (eCallWM 0 rfl rfl (.c rfl .n) C92 (fun w hw hb => h8 (k := r + 1 + 1 + 1) hw hb (by omega)) trSelf)) ?_
                          refine effStep 5 [20] (by kernel_rfl) closedSt (hLeft [0, 2, 17] (by kernel_rfl) (.c (bk 7 rfl) (.c (bk 6 rfl) (.c (bk 6 rfl) .n)))) ?_
                          refine (.c ?_ (.c ?_ .n))
                          · refine effOne rfl (gNone rfl (fV (ySub rfl rfl (by omega)) rfl)) ?_
                            refine effStep 20 [] (by kernel_rfl) closedSt (hLeft [0, 17] (by kernel_rfl) (.c (bk 7 rfl) (.c (bk 6 rfl) .n))) ?_
                            refine .c ?_ .n
                            refine effOne rfl (gNone rfl (fV (yAdd rfl rfl (by omega)) rfl)) ?_
                            refine effStep 21 [] (by kernel_rfl) closedSt (hLeft [0] (by kernel_rfl) (.c (bk 7 rfl) .n)) ?_
                            refine .c ?_ .n
                            refine effOne rfl (gNone rfl (fV (yCall rfl (.c rfl (.c rfl (.c rfl (.c rfl (.c rfl .n))))) C89 (fun w hw => knownL_any (sv0 l k x1 x2) _ _ _ _ w)) rfl)) ?_
                            refine effStep 22 [] (by kernel_rfl) closedSt (hLeft [] (by kernel_rfl) .n) ?_
                            refine .c ?_ .n
                            refine effOne rfl (gNone rfl (fStoreL 5 rfl rfl rfl rfl K58 rfl (rfl))) ?_
                            refine effDone closedSt (hLeft [] (by kernel_rfl) .n) (by kernel_rfl) ?_
                            exact kMeetX (zv1 l k r s c1 c2 x1 x2) (hmt) rfl .n (.c rfl (.c rfl (.c rfl (.c rfl (.c rfl (.c rfl (.c rfl (.c rfl (.c rfl (.c rfl (.c rfl (.c rfl .n)))))))))))) (.c 0 rfl (.c 0 rfl (.c 0 rfl (.c 0 rfl (.c 0 rfl (.c 0 rfl .r))))))
                          · refine effOne rfl (gNone rfl (fV (yAdd rfl rfl (by omega)) rfl)) ?_
                            refine effStep 5 [] (by kernel_rfl) closedSt (hLeft [0, 2] (by kernel_rfl) (.c (bk 7 rfl) (.c (bk 6 rfl) .n))) ?_
                            refine .c ?_ .n
                            refine effOne rfl (gNone rfl (fV (ySub rfl rfl (by omega)) rfl)) ?_
                            refine effStep 21 [] (by kernel_rfl) closedSt (hLeft [0] (by kernel_rfl) (.c (bk 7 rfl) .n)) ?_
                            refine .c ?_ .n
                            refine effOne rfl (gNone rfl (fV (yCall rfl (.c rfl (.c rfl (.c rfl (.c rfl (.c rfl .n))))) C89 (fun w hw => knownL_any (sv0 l k x1 x2) _ _ _ _ w)) rfl)) ?_
                            refine effStep 22 [] (by kernel_rfl) closedSt (hLeft [] (by kernel_rfl) .n) ?_
                            refine .c ?_ .n
                            refine effOne rfl (gNone rfl (fStoreL 5 rfl rfl rfl rfl K58 rfl (rfl))) ?_
                            refine effDone closedSt (hLeft [] (by kernel_rfl) .n) (by kernel_rfl) ?_
                            exact kMeetX (zv1 l k r s c1 c2 x1 x2) (hmt) rfl .n (.c rfl (.c rfl (.c rfl (.c rfl (.c rfl (.c rfl (.c rfl (.c rfl (.c rfl (.c rfl (.c rfl (.c rfl .n)))))))))))) (.c 0 rfl (.c 0 rfl (.c 0 rfl (.c 0 rfl (.c 0 rfl (.c 0 rfl .r))))))
                      · refine effOne rfl (gNone rfl (eCallWM 0 rfl rfl (.c rfl .n) C92 (fun w hw hb => h8 (k := r + 1 + 1 + 1) hw hb (by omega)) trSelf)) ?_
                        refine effStep 5 [15, 20] (by kernel_rfl) closedSt (hLeft [0, 2, 12, 17] (by kernel_rfl) (.c (bk 7 rfl) (.c (bk 6 rfl) (.c (bk 6 rfl) (.c (bk 6 rfl) .n))))) ?_
                        refine (.c ?_ (.c ?_ (.c ?_ .n)))
                        · refine effOne rfl (gNone rfl (fV (ySub rfl rfl (by omega)) rfl)) ?_
                          refine effStep 15 [20] (by kernel_rfl) closedSt (hLeft [0, 12, 17] (by kernel_rfl) (.c (bk 7 rfl) (.c (bk 6 rfl) (.c (bk 6 rfl) .n)))) ?_
                          refine (.c ?_ (.c ?_ .n))
                          · refine effOne rfl (gNone rfl (fV (ySub rfl rfl (by omega)) rfl)) ?_
                            refine effStep 20 [] (by kernel_rfl) closedSt (hLeft [0, 17] (by kernel_rfl) (.c (bk 7 rfl) (.c (bk 6 rfl) .n))) ?_
                            refine .c ?_ .n
                            refine effOne rfl (gNone rfl (fV (yAdd rfl rfl (by omega)) rfl)) ?_
                            refine effStep 21 [] (by kernel_rfl) closedSt (hLeft [0] (by kernel_rfl) (.c (bk 7 rfl) .n)) ?_
                            refine .c ?_ .n
                            refine effOne rfl (gNone rfl (fV (yCall rfl (.c rfl (.c rfl (.c rfl (.c rfl (.c rfl .n))))) C89 (fun w hw => knownL_any (sv0 l k x1 x2) _ _ _ _ w)) rfl)) ?_
                            refine effStep 22 [] (by kernel_rfl) closedSt (hLeft [] (by kernel_rfl) .n) ?_
                            refine .c ?_ .n
                            refine effOne rfl (gNone rfl (fStoreL 5 rfl rfl rfl rfl K58 rfl (rfl))) ?_
                            refine effDone closedSt (hLeft [] (by kernel_rfl) .n) (by kernel_rfl) ?_
                            exact kMeetX (zv1 l k r s c1 c2 x1 x2) (hmt) rfl .n (.c rfl (.c rfl (.c rfl (.c rfl (.c rfl (.c rfl (.c rfl (.c rfl (.c rfl (.c rfl (.c rfl (.c rfl .n)))))))))))) (.c 0 rfl (.c 0 rfl (.c 0 rfl (.c 0 rfl (.c 0 rfl (.c 0 rfl .r))))))
                          · refine effOne rfl (gNone rfl (fV (yAdd rfl rfl (by omega)) rfl)) ?_
                            refine effStep 15 [] (by kernel_rfl) closedSt (hLeft [0, 12] (by kernel_rfl) (.c (bk 7 rfl) (.c (bk 6 rfl) .n))) ?_
                            refine .c ?_ .n
                            refine effOne rfl (gNone rfl (fV (ySub rfl rfl (by omega)) rfl)) ?_
                            refine effStep 21 [] (by kernel_rfl) closedSt (hLeft [0] (by kernel_rfl) (.c (bk 7 rfl) .n)) ?_
                            refine .c ?_ .n
                            refine effOne rfl (gNone rfl (fV (yCall rfl (.c rfl (.c rfl (.c rfl (.c rfl (.c rfl .n))))) C89 (fun w hw => knownL_any (sv0 l k x1 x2) _ _ _ _ w)) rfl)) ?_
                            refine effStep 22 [] (by kernel_rfl) closedSt (hLeft [] (by kernel_rfl) .n) ?_
                            refine .c ?_ .n
                            refine effOne rfl (gNone rfl (fStoreL 5 rfl rfl rfl rfl K58 rfl (rfl))) ?_
                            refine effDone closedSt (hLeft [] (by kernel_rfl) .n) (by kernel_rfl) ?_
                            exact kMeetX (zv1 l k r s c1 c2 x1 x2) (hmt) rfl .n (.c rfl (.c rfl (.c rfl (.c rfl (.c rfl (.c rfl (.c rfl (.c rfl (.c rfl (.c rfl (.c rfl (.c rfl .n)))))))))))) (.c 0 rfl (.c 0 rfl (.c 0 rfl (.c 0 rfl (.c 0 rfl (.c 0 rfl .r))))))
                        · refine effOne rfl (gNone rfl (fV (ySub rfl rfl (by omega)) rfl)) ?_
                          refine effStep 5 [20] (by kernel_rfl) closedSt (hLeft [0, 2, 17] (by kernel_rfl) (.c (bk 7 rfl) (.c (bk 6 rfl) (.c (bk 6 rfl) .n)))) ?_
                          refine (.c ?_ (.c ?_ .n))
                          · refine effOne rfl (gNone rfl (fV (ySub rfl rfl (by omega)) rfl)) ?_
                            refine effStep 20 [] (by kernel_rfl) closedSt (hLeft [0, 17] (by kernel_rfl) (.c (bk 7 rfl) (.c (bk 6 rfl) .n))) ?_
                            refine .c ?_ .n
                            refine effOne rfl (gNone rfl (fV (yAdd rfl rfl (by omega)) rfl)) ?_
                            refine effStep 21 [] (by kernel_rfl) closedSt (hLeft [0] (by kernel_rfl) (.c (bk 7 rfl) .n)) ?_
                            refine .c ?_ .n
                            refine effOne rfl (gNone rfl (fV (yCall rfl (.c rfl (.c rfl (.c rfl (.c rfl (.c rfl .n))))) C89 (fun w hw => knownL_any (sv0 l k x1 x2) _ _ _ _ w)) rfl)) ?_
                            refine effStep 22 [] (by kernel_rfl) closedSt (hLeft [] (by kernel_rfl) .n) ?_
                            refine .c ?_ .n
                            refine effOne rfl (gNone rfl (fStoreL 5 rfl rfl rfl rfl K58 rfl (rfl))) ?_
                            refine effDone closedSt (hLeft [] (by kernel_rfl) .n) (by kernel_rfl) ?_
                            exact kMeetX (zv1 l k r s c1 c2 x1 x2) (hmt) rfl .n (.c rfl (.c rfl (.c rfl (.c rfl (.c rfl (.c rfl (.c rfl (.c rfl (.c rfl (.c rfl (.c rfl (.c rfl .n)))))))))))) (.c 0 rfl (.c 0 rfl (.c 0 rfl (.c 0 rfl (.c 0 rfl (.c 0 rfl .r))))))
                          · refine effOne rfl (gNone rfl (fV (yAdd rfl rfl (by omega)) rfl)) ?_
                            refine effStep 5 [] (by kernel_rfl) closedSt (hLeft [0, 2] (by kernel_rfl) (.c (bk 7 rfl) (.c (bk 6 rfl) .n))) ?_
                            refine .c ?_ .n
                            refine effOne rfl (gNone rfl (fV (ySub rfl rfl (by omega)) rfl)) ?_
                            refine effStep 21 [] (by kernel_rfl) closedSt (hLeft [0] (by kernel_rfl) (.c (bk 7 rfl) .n)) ?_
                            refine .c ?_ .n
                            refine effOne rfl (gNone rfl (fV (yCall rfl (.c rfl (.c rfl (.c rfl (.c rfl (.c rfl .n))))) C89 (fun w hw => knownL_any (sv0 l k x1 x2) _ _ _ _ w)) rfl)) ?_
                            refine effStep 22 [] (by kernel_rfl) closedSt (hLeft [] (by kernel_rfl) .n) ?_
                            refine .c ?_ .n
                            refine effOne rfl (gNone rfl (fStoreL 5 rfl rfl rfl rfl K58 rfl (rfl))) ?_
                            refine effDone closedSt (hLeft [] (by kernel_rfl) .n) (by kernel_rfl) ?_
                            exact kMeetX (zv1 l k r s c1 c2 x1 x2) (hmt) rfl .n (.c rfl (.c rfl (.c rfl (.c rfl (.c rfl (.c rfl (.c rfl (.c rfl (.c rfl (.c rfl (.c rfl (.c rfl .n)))))))))))) (.c 0 rfl (.c 0 rfl (.c 0 rfl (.c 0 rfl (.c 0 rfl (.c 0 rfl .r))))))
                        · refine effOne rfl (gNone rfl (fV (yAdd rfl rfl (by omega)) rfl)) ?_
                          refine effStep 5 [15] (by kernel_rfl) closedSt (hLeft [0, 2, 12] (by kernel_rfl) (.c (bk 7 rfl) (.c (bk 6 rfl) (.c (bk 6 rfl) .n)))) ?_
                          refine (.c ?_ (.c ?_ .n))
                          · refine effOne rfl (gNone rfl (fV (ySub rfl rfl (by omega)) rfl)) ?_
                            refine effStep 15 [] (by kernel_rfl) closedSt (hLeft [0, 12] (by kernel_rfl) (.c (bk 7 rfl) (.c (bk 6 rfl) .n))) ?_
                            refine .c ?_ .n
                            refine effOne rfl (gNone rfl (fV (ySub rfl rfl (by omega)) rfl)) ?_
                            refine effStep 21 [] (by kernel_rfl) closedSt (hLeft [0] (by kernel_rfl) (.c (bk 7 rfl) .n)) ?_
                            refine .c ?_ .n
                            refine effOne rfl (gNone rfl (fV (yCall rfl (.c rfl (.c rfl (.c rfl (.c rfl (.c rfl .n))))) C89 (fun w hw => knownL_any (sv0 l k x1 x2) _ _ _ _ w)) rfl)) ?_
                            refine effStep 22 [] (by kernel_rfl) closedSt (hLeft [] (by kernel_rfl) .n) ?_
                            refine .c ?_ .n
                            refine effOne rfl (gNone rfl (fStoreL 5 rfl rfl rfl rfl K58 rfl (rfl))) ?_
                            refine effDone closedSt (hLeft [] (by kernel_rfl) .n) (by kernel_rfl) ?_
                            exact kMeetX (zv1 l k r s c1 c2 x1 x2) (hmt) rfl .n (.c rfl (.c rfl (.c rfl (.c rfl (.c rfl (.c rfl (.c rfl (.c rfl (.c rfl (.c rfl (.c rfl (.c rfl .n)))))))))))) (.c 0 rfl (.c 0 rfl (.c 0 rfl (.c 0 rfl (.c 0 rfl (.c 0 rfl .r))))))
                          · refine effOne rfl (gNone rfl (fV (ySub rfl rfl (by omega)) rfl)) ?_
                            refine effStep 5 [] (by kernel_rfl) closedSt (hLeft [0, 2] (by kernel_rfl) (.c (bk 7 rfl) (.c (bk 6 rfl) .n))) ?_
                            refine .c ?_ .n
                            refine effOne rfl (gNone rfl (fV (ySub rfl rfl (by omega)) rfl)) ?_
                            refine effStep 21 [] (by kernel_rfl) closedSt (hLeft [0] (by kernel_rfl) (.c (bk 7 rfl) .n)) ?_
                            refine .c ?_ .n
                            refine effOne rfl (gNone rfl (fV (yCall rfl (.c rfl (.c rfl (.c rfl (.c rfl (.c rfl .n))))) C89 (fun w hw => knownL_any (sv0 l k x1 x2) _ _ _ _ w)) rfl)) ?_
                            refine effStep 22 [] (by kernel_rfl) closedSt (hLeft [] (by kernel_rfl) .n) ?_
                            refine .c ?_ .n
                            refine effOne rfl (gNone rfl (fStoreL 5 rfl rfl rfl rfl K58 rfl (rfl))) ?_
                            refine effDone closedSt (hLeft [] (by kernel_rfl) .n) (by kernel_rfl) ?_
                            exact kMeetX (zv1 l k r s c1 c2 x1 x2) (hmt) rfl .n (.c rfl (.c rfl (.c rfl (.c rfl (.c rfl (.c rfl (.c rfl (.c rfl (.c rfl (.c rfl (.c rfl (.c rfl .n)))))))))))) (.c 0 rfl (.c 0 rfl (.c 0 rfl (.c 0 rfl (.c 0 rfl (.c 0 rfl .r))))))
                  · refine effOne rfl (gNone rfl (eCallWM 0 rfl rfl (.c rfl .n) C92 (fun w hw hb => h8 (k := r + 1 + 1) hw hb (by omega)) trSelf)) ?_
                    refine effStep 5 [10, 15, 19] (by kernel_rfl) closedSt (hLeft [0, 2, 7, 12, 17, 18] (by kernel_rfl) (.c (bk 7 rfl) (.c (bk 6 rfl) (.c (bk 6 rfl) (.c (bk 6 rfl) (.c (bk 6 rfl) (.c (bk 2 rfl) .n))))))) ?_
                    refine (.c ?_ (.c ?_ (.c ?_ (.c ?_ .n))))
                    · refine effOne rfl (gNone rfl (fV (ySub rfl rfl (by omega)) rfl)) ?_
                      refine effStep 10 [15, 19] (by kernel_rfl) closedSt (hLeft [0, 7, 12, 17, 18] (by kernel_rfl) (.c (bk 7 rfl) (.c (bk 6 rfl) (.c (bk 6 rfl) (.c (bk 6 rfl) (.c (bk 2 rfl) .n)))))) ?_
                      refine (.c ?_ (.c ?_ (.c ?_ .n)))
                      · refine effOne rfl (gNone rfl (fV (yAdd rfl rfl (by omega)) rfl)) ?_
                        refine effStep 15 [19] (by kernel_rfl) closedSt (hLeft [0, 12, 17, 18] (by kernel_rfl) (.c (bk 7 rfl) (.c (bk 6 rfl) (.c (bk 6 rfl) (.c (bk 2 rfl) .n))))) ?_
                        refine (.c ?_ (.c ?_ .n))
                        · refine effOne rfl (gNone rfl (fV (ySub rfl rfl (by omega)) rfl)) ?_
                          refine effStep 19 [] (by kernel_rfl) closedSt (hLeft [0, 17, 18] (by kernel_rfl) (.c (bk 7 rfl) (.c (bk 6 rfl) (.c (bk 2 rfl) .n)))) ?_
                          refine .c ?_ .n
                          refine effOne rfl (gNone rfl (eCallWM 0 rfl rfl (.c rfl .n) C92 (fun w hw hb => h8 (k := r + 1 + 1 + 1) hw hb (by omega)) trSelf)) ?_
                          refine effStep 20 [] (by kernel_rfl) closedSt (hLeft [0, 17] (by kernel_rfl) (.c (bk 7 rfl) (.c (bk 6 rfl) .n))) ?_
                          refine .c ?_ .n
                          refine effOne rfl (gNone rfl (fV (yAdd rfl rfl (by omega)) rfl)) ?_
                          refine effStep 21 [] (by kernel_rfl) closedSt (hLeft [0] (by kernel_rfl) (.c (bk 7 rfl) .n)) ?_
                          refine .c ?_ .n
                          refine effOne rfl (gNone rfl (fV (yCall rfl (.c rfl (.c rfl (.c rfl (.c rfl (.c rfl .n))))) C89 (fun w hw => knownL_any (sv0 l k x1 x2) _ _ _ _ w)) rfl)) ?_
                          refine effStep 22 [] (by kernel_rfl) closedSt (hLeft [] (by kernel_rfl) .n) ?_
                          refine .c ?_ .n
                          refine effOne rfl (gNone rfl (fStoreL 5 rfl rfl rfl rfl K58 rfl (rfl))) ?_
                          refine effDone closedSt (hLeft [] (by kernel_rfl) .n) (by kernel_rfl) ?_
                          exact kMeetX (zv1 l k r s c1 c2 x1 x2) (hmt) rfl .n (.c rfl (.c rfl (.c rfl (.c rfl (.c rfl (.c rfl (.c rfl (.c rfl (.c rfl (.c rfl (.c rfl (.c rfl .n)))))))))))) (.c 0 rfl (.c 0 rfl (.c 0 rfl (.c 0 rfl (.c 0 rfl (.c 0 rfl .r))))))
                        · refine effOne rfl (gNone rfl (eCallWM 0 rfl rfl (.c rfl .n) C92 (fun w hw hb => h8 (k := r + 1 + 1 + 1) hw hb (by omega)) trSelf)) ?_
                          refine effStep 15 [20] (by kernel_rfl) closedSt (hLeft [0, 12, 17] (by kernel_rfl) (.c (bk 7 rfl) (.c (bk 6 rfl) (.c (bk 6 rfl) .n)))) ?_
                          refine (.c ?_ (.c ?_ .n))
                          · refine effOne rfl (gNone rfl (fV (ySub rfl rfl (by omega)) rfl)) ?_
                            refine effStep 20 [] (by kernel_rfl) closedSt (hLeft [0, 17] (by kernel_rfl) (.c (bk 7 rfl) (.c (bk 6 rfl) .n))) ?_
                            refine .c ?_ .n
                            refine effOne rfl (gNone rfl (fV (yAdd rfl rfl (by omega)) rfl)) ?_
                            refine effStep 21 [] (by kernel_rfl) closedSt (hLeft [0] (by kernel_rfl) (.c (bk 7 rfl) .n)) ?_
                            refine .c ?_ .n
                            refine effOne rfl (gNone rfl (fV (yCall rfl (.c rfl (.c rfl (.c rfl (.c rfl (.c rfl .n))))) C89 (fun w hw => knownL_any (sv0 l k x1 x2) _ _ _ _ w)) rfl)) ?_
                            refine effStep 22 [] (by kernel_rfl) closedSt (hLeft [] (by kernel_rfl) .n) ?_
                            refine .c ?_ .n
                            refine effOne rfl (gNone rfl (fStoreL 5 rfl rfl rfl rfl K58 rfl (rfl))) ?_
                            refine effDone closedSt (hLeft [] (by kernel_rfl) .n) (by kernel_rfl) ?_
                            exact kMeetX (zv1 l k r s c1 c2 x1 x2) (hmt) rfl .n (.c rfl (.c rfl (.c rfl (.c rfl (.c rfl (.c rfl (.c rfl (.c rfl (.c rfl (.c rfl (.c rfl (.c rfl .n)))))))))))) (.c 0 rfl (.c 0 rfl (.c 0 rfl (.c 0 rfl (.c 0 rfl (.c 0 rfl .r))))))
                          · refine effOne rfl (gNone rfl (fV (yAdd rfl rfl (by omega)) rfl)) ?_
                            refine effStep 15 [] (by kernel_rfl) closedSt (hLeft [0, 12] (by kernel_rfl) (.c (bk 7 rfl) (.c (bk 6 rfl) .n))) ?_
                            refine .c ?_ .n
                            refine effOne rfl (gNone rfl (fV (ySub rfl rfl (by omega)) rfl)) ?_
                            refine effStep 21 [] (by kernel_rfl) closedSt (hLeft [0] (by kernel_rfl) (.c (bk 7 rfl) .n)) ?_
                            refine .c ?_ .n
                            refine effOne rfl (gNone rfl (fV (yCall rfl (.c rfl (.c rfl (.c rfl (.c rfl (.c rfl .n))))) C89 (fun w hw => knownL_any (sv0 l k x1 x2) _ _ _ _ w)) rfl)) ?_
                            refine effStep 22 [] (by kernel_rfl) closedSt (hLeft [] (by kernel_rfl) .n) ?_
                            refine .c ?_ .n
                            refine effOne rfl (gNone rfl (fStoreL 5 rfl rfl rfl rfl K58 rfl (rfl))) ?_
                            refine effDone closedSt (hLeft [] (by kernel_rfl) .n) (by kernel_rfl) ?_
                            exact kMeetX (zv1 l k r s c1 c2 x1 x2) (hmt) rfl .n (.c rfl (.c rfl (.c rfl (.c rfl (.c rfl (.c rfl (.c rfl (.c rfl (.c rfl (.c rfl (.c rfl (.c rfl .n)))))))))))) (.c 0 rfl (.c 0 rfl (.c 0 rfl (.c 0 rfl (.c 0 rfl (.c 0 rfl .r))))))
                      · refine effOne rfl (gNone rfl (fV (ySub rfl rfl (by omega)) rfl)) ?_
                        refine effStep 10 [19] (by kernel_rfl) closedSt (hLeft [0, 7, 17, 18] (by kernel_rfl) (.c (bk 7 rfl) (.c (bk 6 rfl) (.c (bk 6 rfl) (.c (bk 2 rfl) .n))))) ?_
                        refine (.c ?_ (.c ?_ .n))
                        · refine effOne rfl (gNone rfl (fV (yAdd rfl rfl (by omega)) rfl)) ?_
                          refine effStep 19 [] (by kernel_rfl) closedSt (hLeft [0, 17, 18] (by kernel_rfl) (.c (bk 7 rfl) (.c (bk 6 rfl) (.c (bk 2 rfl) .n)))) ?_
                          refine .c ?_ .n
                          refine effOne rfl (gNone rfl (eCallWM 0 rfl rfl (.c rfl .n) C92 (fun w hw hb => h8 (k := r + 1 + 1 + 1) hw hb (by omega)) trSelf)) ?_
                          refine effStep 20 [] (by kernel_rfl) closedSt (hLeft [0, 17] (by kernel_rfl) (.c (bk 7 rfl) (.c (bk 6 rfl) .n))) ?_
                          refine .c ?_ .n
                          refine effOne rfl (gNone rfl (fV (yAdd rfl rfl (by omega)) rfl)) ?_
                          refine effStep 21 [] (by kernel_rfl) closedSt (hLeft [0] (by kernel_rfl) (.c (bk 7 rfl) .n)) ?_
                          refine .c ?_ .n
                          refine effOne rfl (gNone rfl (fV (yCall rfl (.c rfl (.c rfl (.c rfl (.c rfl (.c rfl .n))))) C89 (fun w hw => knownL_any (sv0 l k x1 x2) _ _ _ _ w)) rfl)) ?_
                          refine effStep 22 [] (by kernel_rfl) closedSt (hLeft [] (by kernel_rfl) .n) ?_
                          refine .c ?_ .n
                          refine effOne rfl (gNone rfl (fStoreL 5 rfl rfl rfl rfl K58 rfl (rfl))) ?_
                          refine effDone closedSt (hLeft [] (by kernel_rfl) .n) (by kernel_rfl) ?_
                          exact kMeetX (zv1 l k r s c1 c2 x1 x2) (hmt) rfl .n (.c rfl (.c rfl (.c rfl (.c rfl (.c rfl (.c rfl (.c rfl (.c rfl (.c rfl (.c rfl (.c rfl (.c rfl .n)))))))))))) (.c 0 rfl (.c 0 rfl (.c 0 rfl (.c 0 rfl (.c 0 rfl (.c 0 rfl .r))))))
                        · refine effOne rfl (gNone rfl (eCallWM 0 rfl rfl (.c rfl .n) C92 (fun w hw hb => h8 (k := r + 1 + 1 + 1) hw hb (by omega)) trSelf)) ?_
                          refine effStep 10 [20] (by kernel_rfl) closedSt (hLeft [0, 7, 17] (by kernel_rfl) (.c (bk 7 rfl) (.c (bk 6 rfl) (.c (bk 6 rfl) .n)))) ?_
                          refine (.c ?_ (.c ?_ .n))
                          · refine effOne rfl (gNone rfl (fV (yAdd rfl rfl (by omega)) rfl)) ?_
                            refine effStep 20 [] (by kernel_rfl) closedSt (hLeft [0, 17] (by kernel_rfl) (.c (bk 7 rfl) (.c (bk 6 rfl) .n))) ?_
                            refine .c ?_ .n
                            refine effOne rfl (gNone rfl (fV (yAdd rfl rfl (by omega)) rfl)) ?_
                            refine effStep 21 [] (by kernel_rfl) closedSt (hLeft [0] (by kernel_rfl) (.c (bk 7 rfl) .n)) ?_
                            refine .c ?_ .n
                            refine effOne rfl (gNone rfl (fV (yCall rfl (.c rfl (.c rfl (.c rfl (.c rfl (.c rfl .n))))) C89 (fun w hw => knownL_any (sv0 l k x1 x2) _ _ _ _ w)) rfl)) ?_
                            refine effStep 22 [] (by kernel_rfl) closedSt (hLeft [] (by kernel_rfl) .n) ?_
                            refine .c ?_ .n
                            refine effOne rfl (gNone rfl (fStoreL 5 rfl rfl rfl rfl K58 rfl (rfl))) ?_
                            refine effDone closedSt (hLeft [] (by kernel_rfl) .n) (by kernel_rfl) ?_
                            exact kMeetX (zv1 l k r s c1 c2 x1 x2) (hmt) rfl .n (.c rfl (.c rfl (.c rfl (.c rfl (.c rfl (.c rfl (.c rfl (.c rfl (.c rfl (.c rfl (.c rfl (.c rfl .n)))))))))))) (.c 0 rfl (.c 0 rfl (.c 0 rfl (.c 0 rfl (.c 0 rfl (.c 0 rfl .r))))))
                          · refine effOne rfl (gNone rfl (fV (yAdd rfl rfl (by omega)) rfl)) ?_
                            refine effStep 10 [] (by kernel_rfl) closedSt (hLeft [0, 7] (by kernel_rfl) (.c (bk 7 rfl) (.c (bk 6 rfl) .n))) ?_
                            refine .c ?_ .n
                            refine effOne rfl (gNone rfl (fV (yAdd rfl rfl (by omega)) rfl)) ?_
                            refine effStep 21 [] (by kernel_rfl) closedSt (hLeft [0] (by kernel_rfl) (.c (bk 7 rfl) .n)) ?_
                            refine .c ?_ .n
                            refine effOne rfl (gNone rfl (fV (yCall rfl (.c rfl (.c rfl (.c rfl (.c rfl (.c rfl .n))))) C89 (fun w hw => knownL_any (sv0 l k x1 x2) _ _ _ _ w)) rfl)) ?_
                            refine effStep 22 [] (by kernel_rfl) closedSt (hLeft [] (by kernel_rfl) .n) ?_
                            refine .c ?_ .n
                            refine effOne rfl (gNone rfl (fStoreL 5 rfl rfl rfl rfl K58 rfl (rfl))) ?_
                            refine effDone closedSt (hLeft [] (by kernel_rfl) .n) (by kernel_rfl) ?_
                            exact kMeetX (zv1 l k r s c1 c2 x1 x2) (hmt) rfl .n (.c rfl (.c rfl (.c rfl (.c rfl (.c rfl (.c rfl (.c rfl (.c rfl (.c rfl (.c rfl (.c rfl (.c rfl .n)))))))))))) (.c 0 rfl (.c 0 rfl (.c 0 rfl (.c 0 rfl (.c 0 rfl (.c 0 rfl .r))))))
                      · refine effOne rfl (gNone rfl (eCallWM 0 rfl rfl (.c rfl .n) C92 (fun w hw hb => h8 (k := r + 1 + 1 + 1) hw hb (by omega)) trSelf)) ?_
                        refine effStep 10 [15, 20] (by kernel_rfl) closedSt (hLeft [0, 7, 12, 17] (by kernel_rfl) (.c (bk 7 rfl) (.c (bk 6 rfl) (.c (bk 6 rfl) (.c (bk 6 rfl) .n))))) ?_
                        refine (.c ?_ (.c ?_ (.c ?_ .n)))
                        · refine effOne rfl (gNone rfl (fV (yAdd rfl rfl (by omega)) rfl)) ?_
                          refine effStep 15 [20] (by kernel_rfl) closedSt (hLeft [0, 12, 17] (by kernel_rfl) (.c (bk 7 rfl) (.c (bk 6 rfl) (.c (bk 6 rfl) .n)))) ?_
                          refine (.c ?_ (.c ?_ .n))
                          · refine effOne rfl (gNone rfl (fV (ySub rfl rfl (by omega)) rfl)) ?_
                            refine effStep 20 [] (by kernel_rfl) closedSt (hLeft [0, 17] (by kernel_rfl) (.c (bk 7 rfl) (.c (bk 6 rfl) .n))) ?_
                            refine .c ?_ .n
                            refine effOne rfl (gNone rfl (fV (yAdd rfl rfl (by omega)) rfl)) ?_
                            refine effStep 21 [] (by kernel_rfl) closedSt (hLeft [0] (by kernel_rfl) (.c (bk 7 rfl) .n)) ?_
                            refine .c ?_ .n
                            refine effOne rfl (gNone rfl (fV (yCall rfl (.c rfl (.c rfl (.c rfl (.c rfl (.c rfl .n))))) C89 (fun w hw => knownL_any (sv0 l k x1 x2) _ _ _ _ w)) rfl)) ?_
                            refine effStep 22 [] (by kernel_rfl) closedSt (hLeft [] (by kernel_rfl) .n) ?_
                            refine .c ?_ .n
                            refine effOne rfl (gNone rfl (fStoreL 5 rfl rfl rfl rfl K58 rfl (rfl))) ?_
                            refine effDone closedSt (hLeft [] (by kernel_rfl) .n) (by kernel_rfl) ?_
                            exact kMeetX (zv1 l k r s c1 c2 x1 x2) (hmt) rfl .n (.c rfl (.c rfl (.c rfl (.c rfl (.c rfl (.c rfl (.c rfl (.c rfl (.c rfl (.c rfl (.c rfl (.c rfl .n)))))))))))) (.c 0 rfl (.c 0 rfl (.c 0 rfl (.c 0 rfl (.c 0 rfl (.c 0 rfl .r))))))
                          · refine effOne rfl (gNone rfl (fV (yAdd rfl rfl (by omega)) rfl)) ?_
                            refine effStep 15 [] (by kernel_rfl) closedSt (hLeft [0, 12] (by kernel_rfl) (.c (bk 7 rfl) (.c (bk 6 rfl) .n))) ?_
                            refine .c ?_ .n
                            refine effOne rfl (gNone rfl (fV (ySub rfl rfl (by omega)) rfl)) ?_
                            refine effStep 21 [] (by kernel_rfl) closedSt (hLeft [0] (by kernel_rfl) (.c (bk 7 rfl) .n)) ?_
                            refine .c ?_ .n
                            refine effOne rfl (gNone rfl (fV (yCall rfl (.c rfl (.c rfl (.c rfl (.c rfl (.c rfl .n))))) C89 (fun w hw => knownL_any (sv0 l k x1 x2) _ _ _ _ w)) rfl)) ?_
                            refine effStep 22 [] (by kernel_rfl) closedSt (hLeft [] (by kernel_rfl) .n) ?_
                            refine .c ?_ .n
                            refine effOne rfl (gNone rfl (fStoreL 5 rfl rfl rfl rfl K58 rfl (rfl))) ?_
                            refine effDone closedSt (hLeft [] (by kernel_rfl) .n) (by kernel_rfl) ?_
                            exact kMeetX (zv1 l k r s c1 c2 x1 x2) (hmt) rfl .n (.c rfl (.c rfl (.c rfl (.c rfl (.c rfl (.c rfl (.c rfl (.c rfl (.c rfl (.c rfl (.c rfl (.c rfl .n)))))))))))) (.c 0 rfl (.c 0 rfl (.c 0 rfl (.c 0 rfl (.c 0 rfl (.c 0 rfl .r))))))
                        · refine effOne rfl (gNone rfl (fV (ySub rfl rfl (by omega)) rfl)) ?_
                          refine effStep 10 [20] (by kernel_rfl) closedSt (hLeft [0, 7, 17] (by kernel_rfl) (.c (bk 7 rfl) (.c (bk 6 rfl) (.c (bk 6 rfl) .n)))) ?_
                          refine (.c ?_ (.c ?_ .n))
                          · refine effOne rfl (gNone rfl (fV (yAdd rfl rfl (by omega)) rfl)) ?_
                            refine effStep 20 [] (by kernel_rfl) closedSt (hLeft [0, 17] (by kernel_rfl) (.c (bk 7 rfl) (.c (bk 6 rfl) .n))) ?_
                            refine .c ?_ .n
                            refine effOne rfl (gNone rfl (fV (yAdd rfl rfl (by omega)) rfl)) ?_
                            refine effStep 21 [] (by kernel_rfl) closedSt (hLeft [0] (by kernel_rfl) (.c (bk 7 rfl) .n)) ?_
                            refine .c ?_ .n
                            refine effOne rfl (gNone rfl (fV (yCall rfl (.c rfl (.c rfl (.c rfl (.c rfl (.c rfl .n))))) C89 (fun w hw => knownL_any (sv0 l k x1 x2) _ _ _ _ w)) rfl)) ?_
                            refine effStep 22 [] (by kernel_rfl) closedSt (hLeft [] (by kernel_rfl) .n) ?_
                            refine .c ?_ .n
                            refine effOne rfl (gNone rfl (fStoreL 5 rfl rfl rfl rfl K58 rfl (rfl))) ?_
                            refine effDone closedSt (hLeft [] (by kernel_rfl) .n) (by kernel_rfl) ?_
                            exact kMeetX (zv1 l k r s c1 c2 x1 x2) (hmt) rfl .n (.c rfl (.c rfl (.c rfl (.c rfl (.c rfl (.c rfl (.c rfl (.c rfl (.c rfl (.c rfl (.c rfl (.c rfl .n)))))))))))) (.c 0 rfl (.c 0 rfl (.c 0 rfl (.c 0 rfl (.c 0 rfl (.c 0 rfl .r))))))
                          · refine effOne rfl (gNone rfl (fV (yAdd rfl rfl (by omega)) rfl)) ?_
                            refine effStep 10 [] (by kernel_rfl) closedSt (hLeft [0, 7] (by kernel_rfl) (.c (bk 7 rfl) (.c (bk 6 rfl) .n))) ?_
                            refine .c ?_ .n
                            refine effOne rfl (gNone rfl (fV (yAdd rfl rfl (by omega)) rfl)) ?_
                            refine effStep 21 [] (by kernel_rfl) closedSt (hLeft [0] (by kernel_rfl) (.c (bk 7 rfl) .n)) ?_
                            refine .c ?_ .n
                            refine effOne rfl (gNone rfl (fV (yCall rfl (.c rfl (.c rfl (.c rfl (.c rfl (.c rfl .n))))) C89 (fun w hw => knownL_any (sv0 l k x1 x2) _ _ _ _ w)) rfl)) ?_
                            refine effStep 22 [] (by kernel_rfl) closedSt (hLeft [] (by kernel_rfl) .n) ?_
                            refine .c ?_ .n
                            refine effOne rfl (gNone rfl (fStoreL 5 rfl rfl rfl rfl K58 rfl (rfl))) ?_
                            refine effDone closedSt (hLeft [] (by kernel_rfl) .n) (by kernel_rfl) ?_
                            exact kMeetX (zv1 l k r s c1 c2 x1 x2) (hmt) rfl .n (.c rfl (.c rfl (.c rfl (.c rfl (.c rfl (.c rfl (.c rfl (.c rfl (.c rfl (.c rfl (.c rfl (.c rfl .n)))))))))))) (.c 0 rfl (.c 0 rfl (.c 0 rfl (.c 0 rfl (.c 0 rfl (.c 0 rfl .r))))))
                        · refine effOne rfl (gNone rfl (fV (yAdd rfl rfl (by omega)) rfl)) ?_
                          refine effStep 10 [15] (by kernel_rfl) closedSt (hLeft [0, 7, 12] (by kernel_rfl) (.c (bk 7 rfl) (.c (bk 6 rfl) (.c (bk 6 rfl) .n)))) ?_
                          refine (.c ?_ (.c ?_ .n))
                          · refine effOne rfl (gNone rfl (fV (yAdd rfl rfl (by omega)) rfl)) ?_
                            refine effStep 15 [] (by kernel_rfl) closedSt (hLeft [0, 12] (by kernel_rfl) (.c (bk 7 rfl) (.c (bk 6 rfl) .n))) ?_
                            refine .c ?_ .n
                            refine effOne rfl (gNone rfl (fV (ySub rfl rfl (by omega)) rfl)) ?_
                            refine effStep 21 [] (by kernel_rfl) closedSt (hLeft [0] (by kernel_rfl) (.c (bk 7 rfl) .n)) ?_
                            refine .c ?_ .n
                            refine effOne rfl (gNone rfl (fV (yCall rfl (.c rfl (.c rfl (.c rfl (.c rfl (.c rfl .n))))) C89 (fun w hw => knownL_any (sv0 l k x1 x2) _ _ _ _ w)) rfl)) ?_
                            refine effStep 22 [] (by kernel_rfl) closedSt (hLeft [] (by kernel_rfl) .n) ?_
                            refine .c ?_ .n
                            refine effOne rfl (gNone rfl (fStoreL 5 rfl rfl rfl rfl K58 rfl (rfl))) ?_
                            refine effDone closedSt (hLeft [] (by kernel_rfl) .n) (by kernel_rfl) ?_
                            exact kMeetX (zv1 l k r s c1 c2 x1 x2) (hmt) rfl .n (.c rfl (.c rfl (.c rfl (.c rfl (.c rfl (.c rfl (.c rfl (.c rfl (.c rfl (.c rfl (.c rfl (.c rfl .n)))))))))))) (.c 0 rfl (.c 0 rfl (.c 0 rfl (.c 0 rfl (.c 0 rfl (.c 0 rfl .r))))))
                          · refine effOne rfl (gNone rfl (fV (ySub rfl rfl (by omega)) rfl)) ?_
                            refine effStep 10 [] (by kernel_rfl) closedSt (hLeft [0, 7] (by kernel_rfl) (.c (bk 7 rfl) (.c (bk 6 rfl) .n))) ?_
                            refine .c ?_ .n
                            refine effOne rfl (gNone rfl (fV (yAdd rfl rfl (by omega)) rfl)) ?_
                            refine effStep 21 [] (by kernel_rfl) closedSt (hLeft [0] (by kernel_rfl) (.c (bk 7 rfl) .n)) ?_
                            refine .c ?_ .n
                            refine effOne rfl (gNone rfl (fV (yCall rfl (.c rfl (.c rfl (.c rfl (.c rfl (.c rfl .n))))) C89 (fun w hw => knownL_any (sv0 l k x1 x2) _ _ _ _ w)) rfl)) ?_
                            refine effStep 22 [] (by kernel_rfl) closedSt (hLeft [] (by kernel_rfl) .n) ?_
                            refine .c ?_ .n
                            refine effOne rfl (gNone rfl (fStoreL 5 rfl rfl rfl rfl K58 rfl (rfl))) ?_
                            refine effDone closedSt (hLeft [] (by kernel_rfl) .n) (by kernel_rfl) ?_
                            exact kMeetX (zv1 l k r s c1 c2 x1 x2) (hmt) rfl .n (.c rfl (.c rfl (.c rfl (.c rfl (.c rfl (.c rfl (.c rfl (.c rfl (.c rfl (.c rfl (.c rfl (.c rfl .n)))))))))))) (.c 0 rfl (.c 0 rfl (.c 0 rfl (.c 0 rfl (.c 0 rfl (.c 0 rfl .r))))))
                    · refine effOne rfl (gNone rfl (fV (yAdd rfl rfl (by omega)) rfl)) ?_
                      refine effStep 5 [15, 19] (by kernel_rfl) closedSt (hLeft [0, 2, 12, 17, 18] (by kernel_rfl) (.c (bk 7 rfl) (.c (bk 6 rfl) (.c (bk 6 rfl) (.c (bk 6 rfl) (.c (bk 2 rfl) .n)))))) ?_
                      refine (.c ?_ (.c ?_ (.c ?_ .n)))
                      · refine effOne rfl (gNone rfl (fV (ySub rfl rfl (by omega)) rfl)) ?_
                        refine effStep 15 [19] (by kernel_rfl) closedSt (hLeft [0, 12, 17, 18] (by kernel_rfl) (.c (bk 7 rfl) (.c (bk 6 rfl) (.c (bk 6 rfl) (.c (bk 2 rfl) .n))))) ?_
                        refine (.c ?_ (.c ?_ .n))
                        · refine effOne rfl (gNone rfl (fV (ySub rfl rfl (by omega)) rfl)) ?_
                          refine effStep 19 [] (by kernel_rfl) closedSt (hLeft [0, 17, 18] (by kernel_rfl) (.c (bk 7 rfl) (.c (bk 6 rfl) (.c (bk 2 rfl) .n)))) ?_
                          refine .c ?_ .n
                          refine effOne rfl (gNone rfl (eCallWM 0 rfl rfl (.c rfl .n) C92 (fun w hw hb => h8 (k := r + 1 + 1 + 1) hw hb (by omega)) trSelf)) ?_
                          refine effStep 20 [] (by kernel_rfl) closedSt (hLeft [0, 17] (by kernel_rfl) (.c (bk 7 rfl) (.c (bk 6 rfl) .n))) ?_
                          refine .c ?_ .n
                          refine effOne rfl (gNone rfl (fV (yAdd rfl rfl (by omega)) rfl)) ?_
                          refine effStep 21 [] (by kernel_rfl) closedSt (hLeft [0] (by kernel_rfl) (.c (bk 7 rfl) .n)) ?_
                          refine .c ?_ .n
                          refine effOne rfl (gNone rfl (fV (yCall rfl (.c rfl (.c rfl (.c rfl (.c rfl (.c rfl .n))))) C89 (fun w hw => knownL_any (sv0 l k x1 x2) _ _ _ _ w)) rfl)) ?_
                          refine effStep 22 [] (by kernel_rfl) closedSt (hLeft [] (by kernel_rfl) .n) ?_
                          refine .c ?_ .n
                          refine effOne rfl (gNone rfl (fStoreL 5 rfl rfl rfl rfl K58 rfl (rfl))) ?_
                          refine effDone closedSt (hLeft [] (by kernel_rfl) .n) (by kernel_rfl) ?_
                          exact kMeetX (zv1 l k r s c1 c2 x1 x2) (hmt) rfl .n (.c rfl (.c rfl (.c rfl (.c rfl (.c rfl (.c rfl (.c rfl (.c rfl (.c rfl (.c rfl (.c rfl (.c rfl .n)))))))))))) (.c 0 rfl (.c 0 rfl (.c 0 rfl (.c 0 rfl (.c 0 rfl (.c 0 rfl .r))))))
                        · refine effOne rfl (gNone rfl (eCallWM 0 rfl rfl (.c rfl .n) C92 (fun w hw hb => h8 (k := r + 1 + 1 + 1) hw hb (by omega)) trSelf)) ?_
                          refine effStep 15 [20] (by kernel_rfl) closedSt (hLeft [0, 12, 17] (by kernel_rfl) (.c (bk 7 rfl) (.c (bk 6 rfl) (.c (bk 6 rfl) .n)))) ?_
                          refine (.c ?_ (.c ?_ .n))
                          · refine effOne rfl (gNone rfl (fV (ySub rfl rfl (by omega)) rfl)) ?_
                            refine effStep 20 [] (by kernel_rfl) closedSt (hLeft [0, 17] (by kernel_rfl) (.c (bk 7 rfl) (.c (bk 6 rfl) .n))) ?_
                            refine .c ?_ .n
                            refine effOne rfl (gNone rfl (fV (yAdd rfl rfl (by omega)) rfl)) ?_
                            refine effStep 21 [] (by kernel_rfl) closedSt (hLeft [0] (by kernel_rfl) (.c (bk 7 rfl) .n)) ?_
                            refine .c ?_ .n
                            refine effOne rfl (gNone rfl (fV (yCall rfl (.c rfl (.c rfl (.c rfl (.c rfl (.c rfl .n))))) C89 (fun w hw => knownL_any (sv0 l k x1 x2) _ _ _ _ w)) rfl)) ?_
                            refine effStep 22 [] (by kernel_rfl) closedSt (hLeft [] (by kernel_rfl) .n) ?_
                            refine .c ?_ .n
                            refine effOne rfl (gNone rfl (fStoreL 5 rfl rfl rfl rfl K58 rfl (rfl))) ?_
                            refine effDone closedSt (hLeft [] (by kernel_rfl) .n) (by kernel_rfl) ?_
                            exact kMeetX (zv1 l k r s c1 c2 x1 x2) (hmt) rfl .n (.c rfl (.c rfl (.c rfl (.c rfl (.c rfl (.c rfl (.c rfl (.c rfl (.c rfl (.c rfl (.c rfl (.c rfl .n)))))))))))) (.c 0 rfl (.c 0 rfl (.c 0 rfl (.c 0 rfl (.c 0 rfl (.c 0 rfl .r))))))
                          · refine effOne rfl (gNone rfl (fV (yAdd rfl rfl (by omega)) rfl)) ?_
                            refine effStep 15 [] (by kernel_rfl) closedSt (hLeft [0, 12] (by kernel_rfl) (.c (bk 7 rfl) (.c (bk 6 rfl) .n))) ?_
                            refine .c ?_ .n
                            refine effOne rfl (gNone rfl (fV (ySub rfl rfl (by omega)) rfl)) ?_
                            refine effStep 21 [] (by kernel_rfl) closedSt (hLeft [0] (by kernel_rfl) (.c (bk 7 rfl) .n)) ?_
                            refine .c ?_ .n
                            refine effOne rfl (gNone rfl (fV (yCall rfl (.c rfl (.c rfl (.c rfl (.c rfl (.c rfl .n))))) C89 (fun w hw => knownL_any (sv0 l k x1 x2) _ _ _ _ w)) rfl)) ?_
                            refine effStep 22 [] (by kernel_rfl) closedSt (hLeft [] (by kernel_rfl) .n) ?_
                            refine .c ?_ .n
                            refine effOne rfl (gNone rfl (fStoreL 5 rfl rfl rfl rfl K58 rfl (rfl))) ?_
                            refine effDone closedSt (hLeft [] (by kernel_rfl) .n) (by kernel_rfl) ?_
                            exact kMeetX (zv1 l k r s c1 c2 x1 x2) (hmt) rfl .n (.c rfl (.c rfl (.c rfl (.c rfl (.c rfl (.c rfl (.c rfl (.c rfl (.c rfl (.c rfl (.c rfl (.c rfl .n)))))))))))) (.c 0 rfl (.c 0 rfl (.c 0 rfl (.c 0 rfl (.c 0 rfl (.c 0 rfl .r))))))
                      · refine effOne rfl (gNone rfl (fV (ySub rfl rfl (by omega)) rfl)) ?_
                        refine effStep 5 [19] (by kernel_rfl) closedSt (hLeft [0, 2, 17, 18] (by kernel_rfl) (.c (bk 7 rfl) (.c (bk 6 rfl) (.c (bk 6 rfl) (.c (bk 2 rfl) .n))))) ?_
                        refine (.c ?_ (.c ?_ .n))
                        · refine effOne rfl (gNone rfl (fV (ySub rfl rfl (by omega)) rfl)) ?_
                          refine effStep 19 [] (by kernel_rfl) closedSt (hLeft [0, 17, 18] (by kernel_rfl) (.c (bk 7 rfl) (.c (bk 6 rfl) (.c (bk 2 rfl) .n)))) ?_
                          refine .c ?_ .n
                          refine effOne rfl (gNone rfl (eCallWM 0 rfl rfl (.c rfl .n) C92 (fun w hw hb => h8 (k := r + 1 + 1 + 1) hw hb (by omega)) trSelf)) ?_
                          refine effStep 20 [] (by kernel_rfl) closedSt (hLeft [0, 17] (by kernel_rfl) (.c (bk 7 rfl) (.c (bk 6 rfl) .n))) ?_
                          refine .c ?_ .n
                          refine effOne rfl (gNone rfl (fV (yAdd rfl rfl (by omega)) rfl)) ?_
                          refine effStep 21 [] (by kernel_rfl) closedSt (hLeft [0] (by kernel_rfl) (.c (bk 7 rfl) .n)) ?_
                          refine .c ?_ .n
                          refine effOne rfl (gNone rfl (fV (yCall rfl (.c rfl (.c rfl (.c rfl (.c rfl (.c rfl .n))))) C89 (fun w hw => knownL_any (sv0 l k x1 x2) _ _ _ _ w)) rfl)) ?_
                          refine effStep 22 [] (by kernel_rfl) closedSt (hLeft [] (by kernel_rfl) .n) ?_
                          refine .c ?_ .n
                          refine effOne rfl (gNone rfl (fStoreL 5 rfl rfl rfl rfl K58 rfl (rfl))) ?_
                          refine effDone closedSt (hLeft [] (by kernel_rfl) .n) (by kernel_rfl) ?_
                          exact kMeetX (zv1 l k r s c1 c2 x1 x2) (hmt) rfl .n (.c rfl (.c rfl (.c rfl (.c rfl (.c rfl (.c rfl (.c rfl (.c rfl (.c rfl (.c rfl (.c rfl (.c rfl .n)))))))))))) (.c 0 rfl (.c 0 rfl (.c 0 rfl (.c 0 rfl (.c 0 rfl (.c 0 rfl .r))))))
                        · refine effOne rfl (gNone rfl (eCallWM 0 rfl rfl (.c rfl .n) C92 (fun w hw hb => h8 (k := r + 1 + 1 + 1) hw hb (by omega)) trSelf)) ?_
                          refine effStep 5 [20] (by kernel_rfl) closedSt (hLeft [0, 2, 17] (by kernel_rfl) (.c (bk 7 rfl) (.c (bk 6 rfl) (.c (bk 6 rfl) .n)))) ?_
                          refine (.c ?_ (.c ?_ .n))
                          · refine effOne rfl (gNone rfl (fV (ySub rfl rfl (by omega)) rfl)) ?_
                            refine effStep 20 [] (by kernel_rfl) closedSt (hLeft [0, 17] (by kernel_rfl) (.c (bk 7 rfl) (.c (bk 6 rfl) .n))) ?_
                            refine .c ?_ .n
                            refine effOne rfl (gNone rfl (fV (yAdd rfl rfl (by omega)) rfl)) ?_
                            refine effStep 21 [] (by kernel_rfl) closedSt (hLeft [0] (by kernel_rfl) (.c (bk 7 rfl) .n)) ?_
                            refine .c ?_ .n
                            refine effOne rfl (gNone rfl (fV (yCall rfl (.c rfl (.c rfl (.c rfl (.c rfl (.c rfl .n))))) C89 (fun w hw => knownL_any (sv0 l k x1 x2) _ _ _ _ w)) rfl)) ?_
                            refine effStep 22 [] (by kernel_rfl) closedSt (hLeft [] (by kernel_rfl) .n) ?_
                            refine .c ?_ .n
                            refine effOne rfl (gNone rfl (fStoreL 5 rfl rfl rfl rfl K58 rfl (rfl))) ?_
                            refine effDone closedSt (hLeft [] (by kernel_rfl) .n) (by kernel_rfl) ?_
                            exact kMeetX (zv1 l k r s c1 c2 x1 x2) (hmt) rfl .n (.c rfl (.c rfl (.c rfl (.c rfl (.c rfl (.c rfl (.c rfl (.c rfl (.c rfl (.c rfl (.c rfl (.c rfl .n)))))))))))) (.c 0 rfl (.c 0 rfl (.c 0 rfl (.c 0 rfl (.c 0 rfl (.c 0 rfl .r))))))
                          · refine effOne rfl (gNone rfl (fV (yAdd rfl rfl (by omega)) rfl)) ?_
                            refine effStep 5 [] (by kernel_rfl) closedSt (hLeft [0, 2] (by kernel_rfl) (.c (bk 7 rfl) (.c (bk 6 rfl) .n))) ?_
                            refine .c ?_ .n
                            refine effOne rfl (gNone rfl (fV (ySub rfl rfl (by omega)) rfl)) ?_
                            refine effStep 21 [] (by kernel_rfl) closedSt (hLeft [0] (by kernel_rfl) (.c (bk 7 rfl) .n)) ?_
                            refine .c ?_ .n
                            refine effOne rfl (gNone rfl (fV (yCall rfl (.c rfl (.c rfl (.c rfl (.c rfl (.c rfl .n))))) C89 (fun w hw => knownL_any (sv0 l k x1 x2) _ _ _ _ w)) rfl)) ?_
                            refine effStep 22 [] (by kernel_rfl) closedSt (hLeft [] (by kernel_rfl) .n) ?_
                            refine .c ?_ .n
                            refine effOne rfl (gNone rfl (fStoreL 5 rfl rfl rfl rfl K58 rfl (rfl))) ?_
                            refine effDone closedSt (hLeft [] (by kernel_rfl) .n) (by kernel_rfl) ?_
                            exact kMeetX (zv1 l k r s c1 c2 x1 x2) (hmt) rfl .n (.c rfl (.c rfl (.c rfl (.c rfl (.c rfl (.c rfl (.c rfl (.c rfl (.c rfl (.c rfl (.c rfl (.c rfl .n)))))))))))) (.c 0 rfl (.c 0 rfl (.c 0 rfl (.c 0 rfl (.c 0 rfl (.c 0 rfl .r))))))
                      · refine effOne rfl (gNone rfl (eCallWM 0 rfl rfl (.c rfl .n) C92 (fun w hw hb => h8 (k := r + 1 + 1 + 1) hw hb (by omega)) trSelf)) ?_
                        refine effStep 5 [15, 20] (by kernel_rfl) closedSt (hLeft [0, 2, 12, 17] (by kernel_rfl) (.c (bk 7 rfl) (.c (bk 6 rfl) (.c (bk 6 rfl) (.c (bk 6 rfl) .n))))) ?_
                        refine (.c ?_ (.c ?_ (.c ?_ .n)))
                        · refine effOne rfl (gNone rfl (fV (ySub rfl rfl (by omega)) rfl)) ?_
                          refine effStep 15 [20] (by kernel_rfl) closedSt (hLeft [0, 12, 17] (by kernel_rfl) (.c (bk 7 rfl) (.c (bk 6 rfl) (.c (bk 6 rfl) .n)))) ?_
                          refine (.c ?_ (.c ?_ .n))
                          · refine effOne rfl (gNone rfl (fV (ySub rfl rfl (by omega)) rfl)) ?_
                            refine effStep 20 [] (by kernel_rfl) closedSt (hLeft [0, 17] (by kernel_rfl) (.c (bk 7 rfl) (.c (bk 6 rfl) .n))) ?_
                            refine .c ?_ .n
                            refine effOne rfl (gNone rfl (fV (yAdd rfl rfl (by omega)) rfl)) ?_
                            refine effStep 21 [] (by kernel_rfl) closedSt (hLeft [0] (by kernel_rfl) (.c (bk 7 rfl) .n)) ?_
                            refine .c ?_ .n
                            refine effOne rfl (gNone rfl (fV (yCall rfl (.c rfl (.c rfl (.c rfl (.c rfl (.c rfl .n))))) C89 (fun w hw => knownL_any (sv0 l k x1 x2) _ _ _ _ w)) rfl)) ?_
                            refine effStep 22 [] (by kernel_rfl) closedSt (hLeft [] (by kernel_rfl) .n) ?_
                            refine .c ?_ .n
                            refine effOne rfl (gNone rfl (fStoreL 5 rfl rfl rfl rfl K58 rfl (rfl))) ?_
                            refine effDone closedSt (hLeft [] (by kernel_rfl) .n) (by kernel_rfl) ?_
                            exact kMeetX (zv1 l k r s c1 c2 x1 x2) (hmt) rfl .n (.c rfl (.c rfl (.c rfl (.c rfl (.c rfl (.c rfl (.c rfl (.c rfl (.c rfl (.c rfl (.c rfl (.c rfl .n)))))))))))) (.c 0 rfl (.c 0 rfl (.c 0 rfl (.c 0 rfl (.c 0 rfl (.c 0 rfl .r))))))
                          · refine effOne rfl (gNone rfl (fV (yAdd rfl rfl (by omega)) rfl)) ?_
                            refine effStep 15 [] (by kernel_rfl) closedSt (hLeft [0, 12] (by kernel_rfl) (.c (bk 7 rfl) (.c (bk 6 rfl) .n))) ?_
                            refine .c ?_ .n
                            refine effOne rfl (gNone rfl (fV (ySub rfl rfl (by omega)) rfl)) ?_
                            refine effStep 21 [] (by kernel_rfl) closedSt (hLeft [0] (by kernel_rfl) (.c (bk 7 rfl) .n)) ?_
                            refine .c ?_ .n
                            refine effOne rfl (gNone rfl (fV (yCall rfl (.c rfl (.c rfl (.c rfl (.c rfl (.c rfl .n))))) C89 (fun w hw => knownL_any (sv0 l k x1 x2) _ _ _ _ w)) rfl)) ?_
                            refine effStep 22 [] (by kernel_rfl) closedSt (hLeft [] (by kernel_rfl) .n) ?_
                            refine .c ?_ .n
                            refine effOne rfl (gNone rfl (fStoreL 5 rfl rfl rfl rfl K58 rfl (rfl))) ?_
                            refine effDone closedSt (hLeft [] (by kernel_rfl) .n) (by kernel_rfl) ?_
                            exact kMeetX (zv1 l k r s c1 c2 x1 x2) (hmt) rfl .n (.c rfl (.c rfl (.c rfl (.c rfl (.c rfl (.c rfl (.c rfl (.c rfl (.c rfl (.c rfl (.c rfl (.c rfl .n)))))))))))) (.c 0 rfl (.c 0 rfl (.c 0 rfl (.c 0 rfl (.c 0 rfl (.c 0 rfl .r))))))
                        · refine effOne rfl (gNone rfl (fV (ySub rfl rfl (by omega)) rfl)) ?_
                          refine effStep 5 [20] (by kernel_rfl) closedSt (hLeft [0, 2, 17] (by kernel_rfl) (.c (bk 7 rfl) (.c (bk 6 rfl) (.c (bk 6 rfl) .n)))) ?_
                          refine (.c ?_ (.c ?_ .n))
                          · refine effOne rfl (gNone rfl (fV (ySub rfl rfl (by omega)) rfl)) ?_
                            refine effStep 20 [] (by kernel_rfl) closedSt (hLeft [0, 17] (by kernel_rfl) (.c (bk 7 rfl) (.c (bk 6 rfl) .n))) ?_
                            refine .c ?_ .n
                            refine effOne rfl (gNone rfl (fV (yAdd rfl rfl (by omega)) rfl)) ?_
                            refine effStep 21 [] (by kernel_rfl) closedSt (hLeft [0] (by kernel_rfl) (.c (bk 7 rfl) .n)) ?_
                            refine .c ?_ .n
                            refine effOne rfl (gNone rfl (fV (yCall rfl (.c rfl (.c rfl (.c rfl (.c rfl (.c rfl .n))))) C89 (fun w hw => knownL_any (sv0 l k x1 x2) _ _ _ _ w)) rfl)) ?_
                            refine effStep 22 [] (by kernel_rfl) closedSt (hLeft [] (by kernel_rfl) .n) ?_
                            refine .c ?_ .n
                            refine effOne rfl (gNone rfl (fStoreL 5 rfl rfl rfl rfl K58 rfl (rfl))) ?_
                            refine effDone closedSt (hLeft [] (by kernel_rfl) .n) (by kernel_rfl) ?_
                            exact kMeetX (zv1 l k r s c1 c2 x1 x2) (hmt) rfl .n (.c rfl (.c rfl (.c rfl (.c rfl (.c rfl (.c rfl (.c rfl (.c rfl (.c rfl (.c rfl (.c rfl (.c rfl .n)))))))))))) (.c 0 rfl (.c 0 rfl (.c 0 rfl (.c 0 rfl (.c 0 rfl (.c 0 rfl .r))))))
                          · refine effOne rfl (gNone rfl (fV (yAdd rfl rfl (by omega)) rfl)) ?_
                            refine effStep 5 [] (by kernel_rfl) closedSt (hLeft [0, 2] (by kernel_rfl) (.c (bk 7 rfl) (.c (bk 6 rfl) .n))) ?_
                            refine .c ?_ .n
                            refine effOne rfl (gNone rfl (fV (ySub rfl rfl (by omega)) rfl)) ?_
                            refine effStep 21 [] (by kernel_rfl) closedSt (hLeft [0] (by kernel_rfl) (.c (bk 7 rfl) .n)) ?_
                            refine .c ?_ .n
                            refine effOne rfl (gNone rfl (fV (yCall rfl (.c rfl (.c rfl (.c rfl (.c rfl (.c rfl .n))))) C89 (fun w hw => knownL_any (sv0 l k x1 x2) _ _ _ _ w)) rfl)) ?_
                            refine effStep 22 [] (by kernel_rfl) closedSt (hLeft [] (by kernel_rfl) .n) ?_
                            refine .c ?_ .n
                            refine effOne rfl (gNone rfl (fStoreL 5 rfl rfl rfl rfl K58 rfl (rfl))) ?_
                            refine effDone closedSt (hLeft [] (by kernel_rfl) .n) (by kernel_rfl) ?_
                            exact kMeetX (zv1 l k r s c1 c2 x1 x2) (hmt) rfl .n (.c rfl (.c rfl (.c rfl (.c rfl (.c rfl (.c rfl (.c rfl (.c rfl (.c rfl (.c rfl (.c rfl (.c rfl .n)))))))))))) (.c 0 rfl (.c 0 rfl (.c 0 rfl (.c 0 rfl (.c 0 rfl (.c 0 rfl .r))))))
                        · refine effOne rfl (gNone rfl (fV (yAdd rfl rfl (by omega)) rfl)) ?_
                          refine effStep 5 [15] (by kernel_rfl) closedSt (hLeft [0, 2, 12] (by kernel_rfl) (.c (bk 7 rfl) (.c (bk 6 rfl) (.c (bk 6 rfl) .n)))) ?_
                          refine (.c ?_ (.c ?_ .n))
                          · refine effOne rfl (gNone rfl (fV (ySub rfl rfl (by omega)) rfl)) ?_
                            refine effStep 15 [] (by kernel_rfl) closedSt (hLeft [0, 12] (by kernel_rfl) (.c (bk 7 rfl) (.c (bk 6 rfl) .n))) ?_
                            refine .c ?_ .n
                            refine effOne rfl (gNone rfl (fV (ySub rfl rfl (by omega)) rfl)) ?_
                            refine effStep 21 [] (by kernel_rfl) closedSt (hLeft [0] (by kernel_rfl) (.c (bk 7 rfl) .n)) ?_
                            refine .c ?_ .n
                            refine effOne rfl (gNone rfl (fV (yCall rfl (.c rfl (.c rfl (.c rfl (.c rfl (.c rfl .n))))) C89 (fun w hw => knownL_any (sv0 l k x1 x2) _ _ _ _ w)) rfl)) ?_
                            refine effStep 22 [] (by kernel_rfl) closedSt (hLeft [] (by kernel_rfl) .n) ?_
                            refine .c ?_ .n
                            refine effOne rfl (gNone rfl (fStoreL 5 rfl rfl rfl rfl K58 rfl (rfl))) ?_
                            refine effDone closedSt (hLeft [] (by kernel_rfl) .n) (by kernel_rfl) ?_
                            exact kMeetX (zv1 l k r s c1 c2 x1 x2) (hmt) rfl .n (.c rfl (.c rfl (.c rfl (.c rfl (.c rfl (.c rfl (.c rfl (.c rfl (.c rfl (.c rfl (.c rfl (.c rfl .n)))))))))))) (.c 0 rfl (.c 0 rfl (.c 0 rfl (.c 0 rfl (.c 0 rfl (.c 0 rfl .r))))))
                          · refine effOne rfl (gNone rfl (fV (ySub rfl rfl (by omega)) rfl)) ?_
                            refine effStep 5 [] (by kernel_rfl) closedSt (hLeft [0, 2] (by kernel_rfl) (.c (bk 7 rfl) (.c (bk 6 rfl) .n))) ?_
                            refine .c ?_ .n
                            refine effOne rfl (gNone rfl (fV (ySub rfl rfl (by omega)) rfl)) ?_
                            refine effStep 21 [] (by kernel_rfl) closedSt (hLeft [0] (by kernel_rfl) (.c (bk 7 rfl) .n)) ?_
                            refine .c ?_ .n
                            refine effOne rfl (gNone rfl (fV (yCall rfl (.c rfl (.c rfl (.c rfl (.c rfl (.c rfl .n))))) C89 (fun w hw => knownL_any (sv0 l k x1 x2) _ _ _ _ w)) rfl)) ?_
                            refine effStep 22 [] (by kernel_rfl) closedSt (hLeft [] (by kernel_rfl) .n) ?_
                            refine .c ?_ .n
                            refine effOne rfl (gNone rfl (fStoreL 5 rfl rfl rfl rfl K58 rfl (rfl))) ?_
                            refine effDone closedSt (hLeft [] (by kernel_rfl) .n) (by kernel_rfl) ?_
                            exact kMeetX (zv1 l k r s c1 c2 x1 x2) (hmt) rfl .n (.c rfl (.c rfl (.c rfl (.c rfl (.c rfl (.c rfl (.c rfl (.c rfl (.c rfl (.c rfl (.c rfl (.c rfl .n)))))))))))) (.c 0 rfl (.c 0 rfl (.c 0 rfl (.c 0 rfl (.c 0 rfl (.c 0 rfl .r))))))
                    · refine effOne rfl (gNone rfl (fV (ySub rfl rfl (by omega)) rfl)) ?_
                      refine effStep 5 [10, 19] (by kernel_rfl) closedSt (hLeft [0, 2, 7, 17, 18] (by kernel_rfl) (.c (bk 7 rfl) (.c (bk 6 rfl) (.c (bk 6 rfl) (.c (bk 6 rfl) (.c (bk 2 rfl) .n)))))) ?_
                      refine (.c ?_ (.c ?_ (.c ?_ .n)))
                      · refine effOne rfl (gNone rfl (fV (ySub rfl rfl (by omega)) rfl)) ?_
                        refine effStep 10 [19] (by kernel_rfl) closedSt (hLeft [0, 7, 17, 18] (by kernel_rfl) (.c (bk 7 rfl) (.c (bk 6 rfl) (.c (bk 6 rfl) (.c (bk 2 rfl) .n))))) ?_
                        refine (.c ?_ (.c ?_ .n))
                        · refine effOne rfl (gNone rfl (fV (yAdd rfl rfl (by omega)) rfl)) ?_
                          refine effStep 19 [] (by kernel_rfl) closedSt (hLeft [0, 17, 18] (by kernel_rfl) (.c (bk 7 rfl) (.c (bk 6 rfl) (.c (bk 2 rfl) .n)))) ?_
                          refine .c ?_ .n
                          refine effOne rfl (gNone rfl (eCallWM 0 rfl rfl (.c rfl .n) C92 (fun w hw hb => h8 (k := r + 1 + 1 + 1) hw hb (by omega)) trSelf)) ?_
                          refine effStep 20 [] (by kernel_rfl) closedSt (hLeft [0, 17] (by kernel_rfl) (.c (bk 7 rfl) (.c (bk 6 rfl) .n))) ?_
                          refine .c ?_ .n
                          refine effOne rfl (gNone rfl (fV (yAdd rfl rfl (by omega)) rfl)) ?_
                          refine effStep 21 [] (by kernel_rfl) closedSt (hLeft [0] (by kernel_rfl) (.c (bk 7 rfl) .n)) ?_
                          refine .c ?_ .n
                          refine effOne rfl (gNone rfl (fV (yCall rfl (.c rfl (.c rfl (.c rfl (.c rfl (.c rfl .n))))) C89 (fun w hw => knownL_any (sv0 l k x1 x2) _ _ _ _ w)) rfl)) ?_
                          refine effStep 22 [] (by kernel_rfl) closedSt (hLeft [] (by kernel_rfl) .n) ?_
                          refine .c ?_ .n
                          refine effOne rfl (gNone rfl (fStoreL 5 rfl rfl rfl rfl K58 rfl (rfl))) ?_
                          refine effDone closedSt (hLeft [] (by kernel_rfl) .n) (by kernel_rfl) ?_
                          exact kMeetX (zv1 l k r s c1 c2 x1 x2) (hmt) rfl .n (.c rfl (.c rfl (.c rfl (.c rfl (.c rfl (.c rfl (.c rfl (.c rfl (.c rfl (.c rfl (.c rfl (.c rfl .n)))))))))))) (.c 0 rfl (.c 0 rfl (.c 0 rfl (.c 0 rfl (.c 0 rfl (.c 0 rfl .r))))))
                        · refine effOne rfl (gNone rfl (eCallWM 0 rfl rfl (.c rfl .n) C92 (fun w hw hb => h8 (k := r + 1 + 1 + 1) hw hb (by omega)) trSelf)) ?_
                          refine effStep 10 [20] (by kernel_rfl) closedSt (hLeft [0, 7, 17] (by kernel_rfl) (.c (bk 7 rfl) (.c (bk 6 rfl) (.c (bk 6 rfl) .n)))) ?_
                          refine (.c ?_ (.c ?_ .n))
                          · refine effOne rfl (gNone rfl (fV (yAdd rfl rfl (by omega)) rfl)) ?_
                            refine effStep 20 [] (by kernel_rfl) closedSt (hLeft [0, 17] (by kernel_rfl) (.c (bk 7 rfl) (.c (bk 6 rfl) .n))) ?_
                            refine .c ?_ .n
                            refine effOne rfl (gNone rfl (fV (yAdd rfl rfl (by omega)) rfl)) ?_
                            refine effStep 21 [] (by kernel_rfl) closedSt (hLeft [0] (by kernel_rfl) (.c (bk 7 rfl) .n)) ?_
                            refine .c ?_ .n
                            refine effOne rfl (gNone rfl (fV (yCall rfl (.c rfl (.c rfl (.c rfl (.c rfl (.c rfl .n))))) C89 (fun w hw => knownL_any (sv0 l k x1 x2) _ _ _ _ w)) rfl)) ?_
                            refine effStep 22 [] (by kernel_rfl) closedSt (hLeft [] (by kernel_rfl) .n) ?_
                            refine .c ?_ .n
                            refine effOne rfl (gNone rfl (fStoreL 5 rfl rfl rfl rfl K58 rfl (rfl))) ?_
                            refine effDone closedSt (hLeft [] (by kernel_rfl) .n) (by kernel_rfl) ?_
                            exact kMeetX (zv1 l k r s c1 c2 x1 x2) (hmt) rfl .n (.c rfl (.c rfl (.c rfl (.c rfl (.c rfl (.c rfl (.c rfl (.c rfl (.c rfl (.c rfl (.c rfl (.c rfl .n)))))))))))) (.c 0 rfl (.c 0 rfl (.c 0 rfl (.c 0 rfl (.c 0 rfl (.c 0 rfl .r))))))
                          · refine effOne rfl (gNone rfl (fV (yAdd rfl rfl (by omega)) rfl)) ?_
                            refine effStep 10 [] (by kernel_rfl) closedSt (hLeft [0, 7] (by kernel_rfl) (.c (bk 7 rfl) (.c (bk 6 rfl) .n))) ?_
                            refine .c ?_ .n
                            refine effOne rfl (gNone rfl (fV (yAdd rfl rfl (by omega)) rfl)) ?_
                            refine effStep 21 [] (by kernel_rfl) closedSt (hLeft [0] (by kernel_rfl) (.c (bk 7 rfl) .n)) ?_
                            refine .c ?_ .n
                            refine effOne rfl (gNone rfl (fV (yCall rfl (.c rfl (.c rfl (.c rfl (.c rfl (.c rfl .n))))) C89 (fun w hw => knownL_any (sv0 l k x1 x2) _ _ _ _ w)) rfl)) ?_
                            refine effStep 22 [] (by kernel_rfl) closedSt (hLeft [] (by kernel_rfl) .n) ?_
                            refine .c ?_ .n
                            refine effOne rfl (gNone rfl (fStoreL 5 rfl rfl rfl rfl K58 rfl (rfl))) ?_
                            refine effDone closedSt (hLeft [] (by kernel_rfl) .n) (by kernel_rfl) ?_
                            exact kMeetX (zv1 l k r s c1 c2 x1 x2) (hmt) rfl .n (.c rfl (.c rfl (.c rfl (.c rfl (.c rfl (.c rfl (.c rfl (.c rfl (.c rfl (.c rfl (.c rfl (.c rfl .n)))))))))))) (.c 0 rfl (.c 0 rfl (.c 0 rfl (.c 0 rfl (.c 0 rfl (.c 0 rfl .r))))))
                      · refine effOne rfl (gNone rfl (fV (yAdd rfl rfl (by omega)) rfl)) ?_
                        refine effStep 5 [19] (by kernel_rfl) closedSt (hLeft [0, 2, 17, 18] (by kernel_rfl) (.c (bk 7 rfl) (.c (bk 6 rfl) (.c (bk 6 rfl) (.c (bk 2 rfl) .n))))) ?_
                        refine (.c ?_ (.c ?_ .n))
                        · refine effOne rfl (gNone rfl (fV (ySub rfl rfl (by omega)) rfl)) ?_
                          refine effStep 19 [] (by kernel_rfl) closedSt (hLeft [0, 17, 18] (by kernel_rfl) (.c (bk 7 rfl) (.c (bk 6 rfl) (.c (bk 2 rfl) .n)))) ?_
                          refine .c ?_ .n
                          refine effOne rfl (gNone rfl (eCallWM 0 rfl rfl (.c rfl .n) C92 (fun w hw hb => h8 (k := r + 1 + 1 + 1) hw hb (by omega)) trSelf)) ?_
                          refine effStep 20 [] (by kernel_rfl) closedSt (hLeft [0, 17] (by kernel_rfl) (.c (bk 7 rfl) (.c (bk 6 rfl) .n))) ?_
                          refine .c ?_ .n
                          refine effOne rfl (gNone rfl (fV (yAdd rfl rfl (by omega)) rfl)) ?_
                          refine effStep 21 [] (by kernel_rfl) closedSt (hLeft [0] (by kernel_rfl) (.c (bk 7 rfl) .n)) ?_
                          refine .c ?_ .n
                          refine effOne rfl (gNone rfl (fV (yCall rfl (.c rfl (.c rfl (.c rfl (.c rfl (.c rfl .n))))) C89 (fun w hw => knownL_any (sv0 l k x1 x2) _ _ _ _ w)) rfl)) ?_
                          refine effStep 22 [] (by kernel_rfl) closedSt (hLeft [] (by kernel_rfl) .n) ?_
                          refine .c ?_ .n
                          refine effOne rfl (gNone rfl (fStoreL 5 rfl rfl rfl rfl K58 rfl (rfl))) ?_
                          refine effDone closedSt (hLeft [] (by kernel_rfl) .n) (by kernel_rfl) ?_
                          exact kMeetX (zv1 l k r s c1 c2 x1 x2) (hmt) rfl .n (.c rfl (.c rfl (.c rfl (.c rfl (.c rfl (.c rfl (.c rfl (.c rfl (.c rfl (.c rfl (.c rfl (.c rfl .n)))))))))))) (.c 0 rfl (.c 0 rfl (.c 0 rfl (.c 0 rfl (.c 0 rfl (.c 0 rfl .r))))))
                        · refine effOne rfl (gNone rfl (eCallWM 0 rfl rfl (.c rfl .n) C92 (fun w hw hb => h8 (k := r + 1 + 1 + 1) hw hb (by omega)) trSelf)) ?_
                          refine effStep 5 [20] (by kernel_rfl) closedSt (hLeft [0, 2, 17] (by kernel_rfl) (.c (bk 7 rfl) (.c (bk 6 rfl) (.c (bk 6 rfl) .n)))) ?_
                          refine (.c ?_ (.c ?_ .n))
                          · refine effOne rfl (gNone rfl (fV (ySub rfl rfl (by omega)) rfl)) ?_
                            refine effStep 20 [] (by kernel_rfl) closedSt (hLeft [0, 17] (by kernel_rfl) (.c (bk 7 rfl) (.c (bk 6 rfl) .n))) ?_
                            refine .c ?_ .n
                            refine effOne rfl (gNone rfl (fV (yAdd rfl rfl (by omega)) rfl)) ?_
                            refine effStep 21 [] (by kernel_rfl) closedSt (hLeft [0] (by kernel_rfl) (.c (bk 7 rfl) .n)) ?_
                            refine .c ?_ .n
                            refine effOne rfl (gNone rfl (fV (yCall rfl (.c rfl (.c rfl (.c rfl (.c rfl (.c rfl .n))))) C89 (fun w hw => knownL_any (sv0 l k x1 x2) _ _ _ _ w)) rfl)) ?_
                            refine effStep 22 [] (by kernel_rfl) closedSt (hLeft [] (by kernel_rfl) .n) ?_
                            refine .c ?_ .n
                            refine effOne rfl (gNone rfl (fStoreL 5 rfl rfl rfl rfl K58 rfl (rfl))) ?_
                            refine effDone closedSt (hLeft [] (by kernel_rfl) .n) (by kernel_rfl) ?_
                            exact kMeetX (zv1 l k r s c1 c2 x1 x2) (hmt) rfl .n (.c rfl (.c rfl (.c rfl (.c rfl (.c rfl (.c rfl (.c rfl (.c rfl (.c rfl (.c rfl (.c rfl (.c rfl .n)))))))))))) (.c 0 rfl (.c 0 rfl (.c 0 rfl (.c 0 rfl (.c 0 rfl (.c 0 rfl .r))))))
                          · refine effOne rfl (gNone rfl (fV (yAdd rfl rfl (by omega)) rfl)) ?_
                            refine effStep 5 [] (by kernel_rfl) closedSt (hLeft [0, 2] (by kernel_rfl) (.c (bk 7 rfl) (.c (bk 6 rfl) .n))) ?_
                            refine .c ?_ .n
                            refine effOne rfl (gNone rfl (fV (ySub rfl rfl (by omega)) rfl)) ?_
                            refine effStep 21 [] (by kernel_rfl) closedSt (hLeft [0] (by kernel_rfl) (.c (bk 7 rfl) .n)) ?_
                            refine .c ?_ .n
                            refine effOne rfl (gNone rfl (fV (yCall rfl (.c rfl (.c rfl (.c rfl (.c rfl (.c rfl .n))))) C89 (fun w hw => knownL_any (sv0 l k x1 x2) _ _ _ _ w)) rfl)) ?_
                            refine effStep 22 [] (by kernel_rfl) closedSt (hLeft [] (by kernel_rfl) .n) ?_
                            refine .c ?_ .n
                            refine effOne rfl (gNone rfl (fStoreL 5 rfl rfl rfl rfl K58 rfl (rfl))) ?_
                            refine effDone closedSt (hLeft [] (by kernel_rfl) .n) (by kernel_rfl) ?_
                            exact kMeetX (zv1 l k r s c1 c2 x1 x2) (hmt) rfl .n (.c rfl (.c rfl (.c rfl (.c rfl (.c rfl (.c rfl (.c rfl (.c rfl (.c rfl (.c rfl (.c rfl (.c rfl .n)))))))))))) (.c 0 rfl (.c 0 rfl (.c 0 rfl (.c 0 rfl (.c 0 rfl (.c 0 rfl .r))))))
                      · refine effOne rfl (gNone rfl (eCallWM 0 rfl rfl (.c rfl .n) C92 (fun w hw hb => h8 (k := r + 1 + 1 + 1) hw hb (by omega)) trSelf)) ?_
                        refine effStep 5 [10, 20] (by kernel_rfl) closedSt (hLeft [0, 2, 7, 17] (by kernel_rfl) (.c (bk 7 rfl) (.c (bk 6 rfl) (.c (bk 6 rfl) (.c (bk 6 rfl) .n))))) ?_
                        refine (.c ?_ (.c ?_ (.c ?_ .n)))
                        · refine effOne rfl (gNone rfl (fV (ySub rfl rfl (by omega)) rfl)) ?_
                          refine effStep 10 [20] (by kernel_rfl) closedSt (hLeft [0, 7, 17] (by kernel_rfl) (.c (bk 7 rfl) (.c (bk 6 rfl) (.c (bk 6 rfl) .n)))) ?_
                          refine (.c ?_ (.c ?_ .n))
                          · refine effOne rfl (gNone rfl (fV (yAdd rfl rfl (by omega)) rfl)) ?_
                            refine effStep 20 [] (by kernel_rfl) closedSt (hLeft [0, 17] (by kernel_rfl) (.c (bk 7 rfl) (.c (bk 6 rfl) .n))) ?_
                            refine .c ?_ .n
                            refine effOne rfl (gNone rfl (fV (yAdd rfl rfl (by omega)) rfl)) ?_
                            refine effStep 21 [] (by kernel_rfl) closedSt (hLeft [0] (by kernel_rfl) (.c (bk 7 rfl) .n)) ?_
                            refine .c ?_ .n
                            refine effOne rfl (gNone rfl (fV (yCall rfl (.c rfl (.c rfl (.c rfl (.c rfl (.c rfl .n))))) C89 (fun w hw => knownL_any (sv0 l k x1 x2) _ _ _ _ w)) rfl)) ?_
                            refine effStep 22 [] (by kernel_rfl) closedSt (hLeft [] (by kernel_rfl) .n) ?_
                            refine .c ?_ .n
                            refine effOne rfl (gNone rfl (fStoreL 5 rfl rfl rfl rfl K58 rfl (rfl))) ?_
                            refine effDone closedSt (hLeft [] (by kernel_rfl) .n) (by kernel_rfl) ?_
                            exact kMeetX (zv1 l k r s c1 c2 x1 x2) (hmt) rfl .n (.c rfl (.c rfl (.c rfl (.c rfl (.c rfl (.c rfl (.c rfl (.c rfl (.c rfl (.c rfl (.c rfl (.c rfl .n)))))))))))) (.c 0 rfl (.c 0 rfl (.c 0 rfl (.c 0 rfl (.c 0 rfl (.c 0 rfl .r))))))
                          · refine effOne rfl (gNone rfl (fV (yAdd rfl rfl (by omega)) rfl)) ?_
                            refine effStep 10 [] (by kernel_rfl) closedSt (hLeft [0, 7] (by kernel_rfl) (.c (bk 7 rfl) (.c (bk 6 rfl) .n))) ?_
                            refine .c ?_ .n
                            refine effOne rfl (gNone rfl (fV (yAdd rfl rfl (by omega)) rfl)) ?_
                            refine effStep 21 [] (by kernel_rfl) closedSt (hLeft [0] (by kernel_rfl) (.c (bk 7 rfl) .n)) ?_
                            refine .c ?_ .n
                            refine effOne rfl (gNone rfl (fV (yCall rfl (.c rfl (.c rfl (.c rfl (.c rfl (.c rfl .n))))) C89 (fun w hw => knownL_any (sv0 l k x1 x2) _ _ _ _ w)) rfl)) ?_
                            refine effStep 22 [] (by kernel_rfl) closedSt (hLeft [] (by kernel_rfl) .n) ?_
                            refine .c ?_ .n
                            refine effOne rfl (gNone rfl (fStoreL 5 rfl rfl rfl rfl K58 rfl (rfl))) ?_
                            refine effDone closedSt (hLeft [] (by kernel_rfl) .n) (by kernel_rfl) ?_
                            exact kMeetX (zv1 l k r s c1 c2 x1 x2) (hmt) rfl .n (.c rfl (.c rfl (.c rfl (.c rfl (.c rfl (.c rfl (.c rfl (.c rfl (.c rfl (.c rfl (.c rfl (.c rfl .n)))))))))))) (.c 0 rfl (.c 0 rfl (.c 0 rfl (.c 0 rfl (.c 0 rfl (.c 0 rfl .r))))))
                        · refine effOne rfl (gNone rfl (fV (yAdd rfl rfl (by omega)) rfl)) ?_
                          refine effStep 5 [20] (by kernel_rfl) closedSt (hLeft [0, 2, 17] (by kernel_rfl) (.c (bk 7 rfl) (.c (bk 6 rfl) (.c (bk 6 rfl) .n)))) ?_
                          refine (.c ?_ (.c ?_ .n))
                          · refine effOne rfl (gNone rfl (fV (ySub rfl rfl (by omega)) rfl)) ?_
                            refine effStep 20 [] (by kernel_rfl) closedSt (hLeft [0, 17] (by kernel_rfl) (.c (bk 7 rfl) (.c (bk 6 rfl) .n))) ?_
                            refine .c ?_ .n
                            refine effOne rfl (gNone rfl (fV (yAdd rfl rfl (by omega)) rfl)) ?_
                            refine effStep 21 [] (by kernel_rfl) closedSt (hLeft [0] (by kernel_rfl) (.c (bk 7 rfl) .n)) ?_
                            refine .c ?_ .n
                            refine effOne rfl (gNone rfl (fV (yCall rfl (.c rfl (.c rfl (.c rfl (.c rfl (.c rfl .n))))) C89 (fun w hw => knownL_any (sv0 l k x1 x2) _ _ _ _ w)) rfl)) ?_
                            refine effStep 22 [] (by kernel_rfl) closedSt (hLeft [] (by kernel_rfl) .n) ?_
                            refine .c ?_ .n
                            refine effOne rfl (gNone rfl (fStoreL 5 rfl rfl rfl rfl K58 rfl (rfl))) ?_
                            refine effDone closedSt (hLeft [] (by kernel_rfl) .n) (by kernel_rfl) ?_
                            exact kMeetX (zv1 l k r s c1 c2 x1 x2) (hmt) rfl .n (.c rfl (.c rfl (.c rfl (.c rfl (.c rfl (.c rfl (.c rfl (.c rfl (.c rfl (.c rfl (.c rfl (.c rfl .n)))))))))))) (.c 0 rfl (.c 0 rfl (.c 0 rfl (.c 0 rfl (.c 0 rfl (.c 0 rfl .r))))))
                          · refine effOne rfl (gNone rfl (fV (yAdd rfl rfl (by omega)) rfl)) ?_
                            refine effStep 5 [] (by kernel_rfl) closedSt (hLeft [0, 2] (by kernel_rfl) (.c (bk 7 rfl) (.c (bk 6 rfl) .n))) ?_
                            refine .c ?_ .n
                            refine effOne rfl (gNone rfl (fV (ySub rfl rfl (by omega)) rfl)) ?_
                            refine effStep 21 [] (by kernel_rfl) closedSt (hLeft [0] (by kernel_rfl) (.c (bk 7 rfl) .n)) ?_
                            refine .c ?_ .n
                            refine effOne rfl (gNone rfl (fV (yCall rfl (.c rfl (.c rfl (.c rfl (.c rfl (.c rfl .n))))) C89 (fun w hw => knownL_any (sv0 l k x1 x2) _ _ _ _ w)) rfl)) ?_
                            refine effStep 22 [] (by kernel_rfl) closedSt (hLeft [] (by kernel_rfl) .n) ?_
                            refine .c ?_ .n
                            refine effOne rfl (gNone rfl (fStoreL 5 rfl rfl rfl rfl K58 rfl (rfl))) ?_
                            refine effDone closedSt (hLeft [] (by kernel_rfl) .n) (by kernel_rfl) ?_
                            exact kMeetX (zv1 l k r s c1 c2 x1 x2) (hmt) rfl .n (.c rfl (.c rfl (.c rfl (.c rfl (.c rfl (.c rfl (.c rfl (.c rfl (.c rfl (.c rfl (.c rfl (.c rfl .n)))))))))))) (.c 0 rfl (.c 0 rfl (.c 0 rfl (.c 0 rfl (.c 0 rfl (.c 0 rfl .r))))))
                        · refine effOne rfl (gNone rfl (fV (yAdd rfl rfl (by omega)) rfl)) ?_
                          refine effStep 5 [10] (by kernel_rfl) closedSt (hLeft [0, 2, 7] (by kernel_rfl) (.c (bk 7 rfl) (.c (bk 6 rfl) (.c (bk 6 rfl) .n)))) ?_
                          refine (.c ?_ (.c ?_ .n))
                          · refine effOne rfl (gNone rfl (fV (ySub rfl rfl (by omega)) rfl)) ?_
                            refine effStep 10 [] (by kernel_rfl) closedSt (hLeft [0, 7] (by kernel_rfl) (.c (bk 7 rfl) (.c (bk 6 rfl) .n))) ?_
                            refine .c ?_ .n
                            refine effOne rfl (gNone rfl (fV (yAdd rfl rfl (by omega)) rfl)) ?_
                            refine effStep 21 [] (by kernel_rfl) closedSt (hLeft [0] (by kernel_rfl) (.c (bk 7 rfl) .n)) ?_
                            refine .c ?_ .n
                            refine effOne rfl (gNone rfl (fV (yCall rfl (.c rfl (.c rfl (.c rfl (.c rfl (.c rfl .n))))) C89 (fun w hw => knownL_any (sv0 l k x1 x2) _ _ _ _ w)) rfl)) ?_
                            refine effStep 22 [] (by kernel_rfl) closedSt (hLeft [] (by kernel_rfl) .n) ?_
                            refine .c ?_ .n
                            refine effOne rfl (gNone rfl (fStoreL 5 rfl rfl rfl rfl K58 rfl (rfl))) ?_
                            refine effDone closedSt (hLeft [] (by kernel_rfl) .n) (by kernel_rfl) ?_
                            exact kMeetX (zv1 l k r s c1 c2 x1 x2) (hmt) rfl .n (.c rfl (.c rfl (.c rfl (.c rfl (.c rfl (.c rfl (.c rfl (.c rfl (.c rfl (.c rfl (.c rfl (.c rfl .n)))))))))))) (.c 0 rfl (.c 0 rfl (.c 0 rfl (.c 0 rfl (.c 0 rfl (.c 0 rfl .r))))))
                          · refine effOne rfl (gNone rfl (fV (yAdd rfl rfl (by omega)) rfl)) ?_
                            refine effStep 5 [] (by kernel_rfl) closedSt (hLeft [0, 2] (by kernel_rfl) (.c (bk 7 rfl) (.c (bk 6 rfl) .n))) ?_
                            refine .c ?_ .n
                            refine effOne rfl (gNone rfl (fV (ySub rfl rfl (by omega)) rfl)) ?_
                            refine effStep 21 [] (by kernel_rfl) closedSt (hLeft [0] (by kernel_rfl) (.c (bk 7 rfl) .n)) ?_
                            refine .c ?_ .n
                            refine effOne rfl (gNone rfl (fV (yCall rfl (.c rfl (.c rfl (.c rfl (.c rfl (.c rfl .n))))) C89 (fun w hw => knownL_any (sv0 l k x1 x2) _ _ _ _ w)) rfl)) ?_
                            refine effStep 22 [] (by kernel_rfl) closedSt (hLeft [] (by kernel_rfl) .n) ?_
                            refine .c ?_ .n
                            refine effOne rfl (gNone rfl (fStoreL 5 rfl rfl rfl rfl K58 rfl (rfl))) ?_
                            refine effDone closedSt (hLeft [] (by kernel_rfl) .n) (by kernel_rfl) ?_
                            exact kMeetX (zv1 l k r s c1 c2 x1 x2) (hmt) rfl .n (.c rfl (.c rfl (.c rfl (.c rfl (.c rfl (.c rfl (.c rfl (.c rfl (.c rfl (.c rfl (.c rfl (.c rfl .n)))))))))))) (.c 0 rfl (.c 0 rfl (.c 0 rfl (.c 0 rfl (.c 0 rfl (.c 0 rfl .r))))))
                    · refine effOne rfl (gNone rfl (eCallWM 0 rfl rfl (.c rfl .n) C92 (fun w hw hb => h8 (k := r + 1 + 1 + 1) hw hb (by omega)) trSelf)) ?_
                      refine effStep 5 [10, 15, 20] (by kernel_rfl) closedSt (hLeft [0, 2, 7, 12, 17] (by kernel_rfl) (.c (bk 7 rfl) (.c (bk 6 rfl) (.c (bk 6 rfl) (.c (bk 6 rfl) (.c (bk 6 rfl) .n)))))) ?_
                      refine (.c ?_ (.c ?_ (.c ?_ (.c ?_ .n))))
                      · refine effOne rfl (gNone rfl (fV (ySub rfl rfl (by omega)) rfl)) ?_
                        refine effStep 10 [15, 20] (by kernel_rfl) closedSt (hLeft [0, 7, 12, 17] (by kernel_rfl) (.c (bk 7 rfl) (.c (bk 6 rfl) (.c (bk 6 rfl) (.c (bk 6 rfl) .n))))) ?_
                        refine (.c ?_ (.c ?_ (.c ?_ .n)))
                        · refine effOne rfl (gNone rfl (fV (yAdd rfl rfl (by omega)) rfl)) ?_
                          refine effStep 15 [20] (by kernel_rfl) closedSt (hLeft [0, 12, 17] (by kernel_rfl) (.c (bk 7 rfl) (.c (bk 6 rfl) (.c (bk 6 rfl) .n)))) ?_
                          refine (.c ?_ (.c ?_ .n))
                          · refine effOne rfl (gNone rfl (fV (ySub rfl rfl (by omega)) rfl)) ?_
                            refine effStep 20 [] (by kernel_rfl) closedSt (hLeft [0, 17] (by kernel_rfl) (.c (bk 7 rfl) (.c (bk 6 rfl) .n))) ?_
                            refine .c ?_ .n
                            refine effOne rfl (gNone rfl (fV (yAdd rfl rfl (by omega)) rfl)) ?_
                            refine effStep 21 [] (by kernel_rfl) closedSt (hLeft [0] (by kernel_rfl) (.c (bk 7 rfl) .n)) ?_
                            refine .c ?_ .n
                            refine effOne rfl (gNone rfl (fV (yCall rfl (.c rfl (.c rfl (.c rfl (.c rfl (.c rfl .n))))) C89 (fun w hw => knownL_any (sv0 l k x1 x2) _ _ _ _ w)) rfl)) ?_
                            refine effStep 22 [] (by kernel_rfl) closedSt (hLeft [] (by kernel_rfl) .n) ?_
                            refine .c ?_ .n
                            refine effOne rfl (gNone rfl (fStoreL 5 rfl rfl rfl rfl K58 rfl (rfl))) ?_
                            refine effDone closedSt (hLeft [] (by kernel_rfl) .n) (by kernel_rfl) ?_
                            exact kMeetX (zv1 l k r s c1 c2 x1 x2) (hmt) rfl .n (.c rfl (.c rfl (.c rfl (.c rfl (.c rfl (.c rfl (.c rfl (.c rfl (.c rfl (.c rfl (.c rfl (.c rfl .n)))))))))))) (.c 0 rfl (.c 0 rfl (.c 0 rfl (.c 0 rfl (.c 0 rfl (.c 0 rfl .r))))))
                          · refine effOne rfl (gNone rfl (fV (yAdd rfl rfl (by omega)) rfl)) ?_
                            refine effStep 15 [] (by kernel_rfl) closedSt (hLeft [0, 12] (by kernel_rfl) (.c (bk 7 rfl) (.c (bk 6 rfl) .n))) ?_
                            refine .c ?_ .n
                            refine effOne rfl (gNone rfl (fV (ySub rfl rfl (by omega)) rfl)) ?_
                            refine effStep 21 [] (by kernel_rfl) closedSt (hLeft [0] (by kernel_rfl) (.c (bk 7 rfl) .n)) ?_
                            refine .c ?_ .n
                            refine effOne rfl (gNone rfl (fV (yCall rfl (.c rfl (.c rfl (.c rfl (.c rfl (.c rfl .n))))) C89 (fun w hw => knownL_any (sv0 l k x1 x2) _ _ _ _ w)) rfl)) ?_
                            refine effStep 22 [] (by kernel_rfl) closedSt (hLeft [] (by kernel_rfl) .n) ?_
                            refine .c ?_ .n
                            refine effOne rfl (gNone rfl (fStoreL 5 rfl rfl rfl rfl K58 rfl (rfl))) ?_
                            refine effDone closedSt (hLeft [] (by kernel_rfl) .n) (by kernel_rfl) ?_
                            exact kMeetX (zv1 l k r s c1 c2 x1 x2) (hmt) rfl .n (.c rfl (.c rfl (.c rfl (.c rfl (.c rfl (.c rfl (.c rfl (.c rfl (.c rfl (.c rfl (.c rfl (.c rfl .n)))))))))))) (.c 0 rfl (.c 0 rfl (.c 0 rfl (.c 0 rfl (.c 0 rfl (.c 0 rfl .r))))))
                        · refine effOne rfl (gNone rfl (fV (ySub rfl rfl (by omega)) rfl)) ?_
                          refine effStep 10 [20] (by kernel_rfl) closedSt (hLeft [0, 7, 17] (by kernel_rfl) (.c (bk 7 rfl) (.c (bk 6 rfl) (.c (bk 6 rfl) .n)))) ?_
                          refine (.c ?_ (.c ?_ .n))
                          · refine effOne rfl (gNone rfl (fV (yAdd rfl rfl (by omega)) rfl)) ?_
                            refine effStep 20 [] (by kernel_rfl) closedSt (hLeft [0, 17] (by kernel_rfl) (.c (bk 7 rfl) (.c (bk 6 rfl) .n))) ?_
                            refine .c ?_ .n
                            refine effOne rfl (gNone rfl (fV (yAdd rfl rfl (by omega)) rfl)) ?_
                            refine effStep 21 [] (by kernel_rfl) closedSt (hLeft [0] (by kernel_rfl) (.c (bk 7 rfl) .n)) ?_
                            refine .c ?_ .n
                            refine effOne rfl (gNone rfl (fV (yCall rfl (.c rfl (.c rfl (.c rfl (.c rfl (.c rfl .n))))) C89 (fun w hw => knownL_any (sv0 l k x1 x2) _ _ _ _ w)) rfl)) ?_
                            refine effStep 22 [] (by kernel_rfl) closedSt (hLeft [] (by kernel_rfl) .n) ?_
                            refine .c ?_ .n
                            refine effOne rfl (gNone rfl (fStoreL 5 rfl rfl rfl rfl K58 rfl (rfl))) ?_
                            refine effDone closedSt (hLeft [] (by kernel_rfl) .n) (by kernel_rfl) ?_
                            exact kMeetX (zv1 l k r s c1 c2 x1 x2) (hmt) rfl .n (.c rfl (.c rfl (.c rfl (.c rfl (.c rfl (.c rfl (.c rfl (.c rfl (.c rfl (.c rfl (.c rfl (.c rfl .n)))))))))))) (.c 0 rfl (.c 0 rfl (.c 0 rfl (.c 0 rfl (.c 0 rfl (.c 0 rfl .r))))))
                          · refine effOne rfl (gNone rfl (fV (yAdd rfl rfl (by omega)) rfl)) ?_
                            refine effStep 10 [] (by kernel_rfl) closedSt (hLeft [0, 7] (by kernel_rfl) (.c (bk 7 rfl) (.c (bk 6 rfl) .n))) ?_
                            refine .c ?_ .n
                            refine effOne rfl (gNone rfl (fV (yAdd rfl rfl (by omega)) rfl)) ?_
                            refine effStep 21 [] (by kernel_rfl) closedSt (hLeft [0] (by kernel_rfl) (.c (bk 7 rfl) .n)) ?_
                            refine .c ?_ .n
                            refine effOne rfl (gNone rfl (fV (yCall rfl (.c rfl (.c rfl (.c rfl (.c rfl (.c rfl .n))))) C89 (fun w hw => knownL_any (sv0 l k x1 x2) _ _ _ _ w)) rfl)) ?_
                            refine effStep 22 [] (by kernel_rfl) closedSt (hLeft [] (by kernel_rfl) .n) ?_
                            refine .c ?_ .n
                            refine effOne rfl (gNone rfl (fStoreL 5 rfl rfl rfl rfl K58 rfl (rfl))) ?_
                            refine effDone closedSt (hLeft [] (by kernel_rfl) .n) (by kernel_rfl) ?_
                            exact kMeetX (zv1 l k r s c1 c2 x1 x2) (hmt) rfl .n (.c rfl (.c rfl (.c rfl (.c rfl (.c rfl (.c rfl (.c rfl (.c rfl (.c rfl (.c rfl (.c rfl (.c rfl .n)))))))))))) (.c 0 rfl (.c 0 rfl (.c 0 rfl (.c 0 rfl (.c 0 rfl (.c 0 rfl .r))))))
                        · refine effOne rfl (gNone rfl (fV (yAdd rfl rfl (by omega)) rfl)) ?_
                          refine effStep 10 [15] (by kernel_rfl) closedSt (hLeft [0, 7, 12] (by kernel_rfl) (.c (bk 7 rfl) (.c (bk 6 rfl) (.c (bk 6 rfl) .n)))) ?_
                          refine (.c ?_ (.c ?_ .n))
                          · refine effOne rfl (gNone rfl (fV (yAdd rfl rfl (by omega)) rfl)) ?_
                            refine effStep 15 [] (by kernel_rfl) closedSt (hLeft [0, 12] (by kernel_rfl) (.c (bk 7 rfl) (.c (bk 6 rfl) .n))) ?_
                            refine .c ?_ .n
                            refine effOne rfl (gNone rfl (fV (ySub rfl rfl (by omega)) rfl)) ?_
                            refine effStep 21 [] (by kernel_rfl) closedSt (hLeft [0] (by kernel_rfl) (.c (bk 7 rfl) .n)) ?_
                            refine .c ?_ .n
                            refine effOne rfl (gNone rfl (fV (yCall rfl (.c rfl (.c rfl (.c rfl (.c rfl (.c rfl .n))))) C89 (fun w hw => knownL_any (sv0 l k x1 x2) _ _ _ _ w)) rfl)) ?_
                            refine effStep 22 [] (by kernel_rfl) closedSt (hLeft [] (by kernel_rfl) .n) ?_
                            refine .c ?_ .n
                            refine effOne rfl (gNone rfl (fStoreL 5 rfl rfl rfl rfl K58 rfl (rfl))) ?_
                            refine effDone closedSt (hLeft [] (by kernel_rfl) .n) (by kernel_rfl) ?_
                            exact kMeetX (zv1 l k r s c1 c2 x1 x2) (hmt) rfl .n (.c rfl (.c rfl (.c rfl (.c rfl (.c rfl (.c rfl (.c rfl (.c rfl (.c rfl (.c rfl (.c rfl (.c rfl .n)))))))))))) (.c 0 rfl (.c 0 rfl (.c 0 rfl (.c 0 rfl (.c 0 rfl (.c 0 rfl .r))))))
                          · refine effOne rfl (gNone rfl (fV (ySub rfl rfl (by omega)) rfl)) ?_
                            refine effStep 10 [] (by kernel_rfl) closedSt (hLeft [0, 7] (by kernel_rfl) (.c (bk 7 rfl) (.c (bk 6 rfl) .n))) ?_
                            refine .c ?_ .n
                            refine effOne rfl (gNone rfl (fV (yAdd rfl rfl (by omega)) rfl)) ?_
                            refine effStep 21 [] (by kernel_rfl) closedSt (hLeft [0] (by kernel_rfl) (.c (bk 7 rfl) .n)) ?_
                            refine .c ?_ .n
                            refine effOne rfl (gNone rfl (fV (yCall rfl (.c rfl (.c rfl (.c rfl (.c rfl (.c rfl .n))))) C89 (fun w hw => knownL_any (sv0 l k x1 x2) _ _ _ _ w)) rfl)) ?_
                            refine effStep 22 [] (by kernel_rfl) closedSt (hLeft [] (by kernel_rfl) .n) ?_
                            refine .c ?_ .n
                            refine effOne rfl (gNone rfl (fStoreL 5 rfl rfl rfl rfl K58 rfl (rfl))) ?_
                            refine effDone closedSt (hLeft [] (by kernel_rfl) .n) (by kernel_rfl) ?_
                            exact kMeetX (zv1 l k r s c1 c2 x1 x2) (hmt) rfl .n (.c rfl (.c rfl (.c rfl (.c rfl (.c rfl (.c rfl (.c rfl (.c rfl (.c rfl (.c rfl (.c rfl (.c rfl .n)))))))))))) (.c 0 rfl (.c 0 rfl (.c 0 rfl (.c 0 rfl (.c 0 rfl (.c 0 rfl .r))))))
                      · refine effOne rfl (gNone rfl (fV (yAdd rfl rfl (by omega)) rfl)) ?_
                        refine effStep 5 [15, 20] (by kernel_rfl) closedSt (hLeft [0, 2, 12, 17] (by kernel_rfl) (.c (bk 7 rfl) (.c (bk 6 rfl) (.c (bk 6 rfl) (.c (bk 6 rfl) .n))))) ?_
                        refine (.c ?_ (.c ?_ (.c ?_ .n)))
                        · refine effOne rfl (gNone rfl (fV (ySub rfl rfl (by omega)) rfl)) ?_
                          refine effStep 15 [20] (by kernel_rfl) closedSt (hLeft [0, 12, 17] (by kernel_rfl) (.c (bk 7 rfl) (.c (bk 6 rfl) (.c (bk 6 rfl) .n)))) ?_
                          refine (.c ?_ (.c ?_ .n))
                          · refine effOne rfl (gNone rfl (fV (ySub rfl rfl (by omega)) rfl)) ?_
                            refine effStep 20 [] (by kernel_rfl) closedSt (hLeft [0, 17] (by kernel_rfl) (.c (bk 7 rfl) (.c (bk 6 rfl) .n))) ?_
                            refine .c ?_ .n
                            refine effOne rfl (gNone rfl (fV (yAdd rfl rfl (by omega)) rfl)) ?_
                            refine effStep 21 [] (by kernel_rfl) closedSt (hLeft [0] (by kernel_rfl) (.c (bk 7 rfl) .n)) ?_
                            refine .c ?_ .n
                            refine effOne rfl (gNone rfl (fV (yCall rfl (.c rfl (.c rfl (.c rfl (.c rfl (.c rfl .n))))) C89 (fun w hw => knownL_any (sv0 l k x1 x2) _ _ _ _ w)) rfl)) ?_
                            refine effStep 22 [] (by kernel_rfl) closedSt (hLeft [] (by kernel_rfl) .n) ?_
                            refine .c ?_ .n
                            refine effOne rfl (gNone rfl (fStoreL 5 rfl rfl rfl rfl K58 rfl (rfl))) ?_
                            refine effDone closedSt (hLeft [] (by kernel_rfl) .n) (by kernel_rfl) ?_
                            exact kMeetX (zv1 l k r s c1 c2 x1 x2) (hmt) rfl .n (.c rfl (.c rfl (.c rfl (.c rfl (.c rfl (.c rfl (.c rfl (.c rfl (.c rfl (.c rfl (.c rfl (.c rfl .n)))))))))))) (.c 0 rfl (.c 0 rfl (.c 0 rfl (.c 0 rfl (.c 0 rfl (.c 0 rfl .r))))))
                          · refine effOne rfl (gNone rfl (fV (yAdd rfl rfl (by omega)) rfl)) ?_
                            refine effStep 15 [] (by kernel_rfl) closedSt (hLeft [0, 12] (by kernel_rfl) (.c (bk 7 rfl) (.c (bk 6 rfl) .n))) ?_
                            refine .c ?_ .n
                            refine effOne rfl (gNone rfl (fV (ySub rfl rfl (by omega)) rfl)) ?_
                            refine effStep 21 [] (by kernel_rfl) closedSt (hLeft [0] (by kernel_rfl) (.c (bk 7 rfl) .n)) ?_
                            refine .c ?_ .n
                            refine effOne rfl (gNone rfl (fV (yCall rfl (.c rfl (.c rfl (.c rfl (.c rfl (.c rfl .n))))) C89 (fun w hw => knownL_any (sv0 l k x1 x2) _ _ _ _ w)) rfl)) ?_
                            refine effStep 22 [] (by kernel_rfl) closedSt (hLeft [] (by kernel_rfl) .n) ?_
                            refine .c ?_ .n
                            refine effOne rfl (gNone rfl (fStoreL 5 rfl rfl rfl rfl K58 rfl (rfl))) ?_
                            refine effDone closedSt (hLeft [] (by kernel_rfl) .n) (by kernel_rfl) ?_
                            exact kMeetX (zv1 l k r s c1 c2 x1 x2) (hmt) rfl .n (.c rfl (.c rfl (.c rfl (.c rfl (.c rfl (.c rfl (.c rfl (.c rfl (.c rfl (.c rfl (.c rfl (.c rfl .n)))))))))))) (.c 0 rfl (.c 0 rfl (.c 0 rfl (.c 0 rfl (.c 0 rfl (.c 0 rfl .r))))))
                        · refine effOne rfl (gNone rfl (fV (ySub rfl rfl (by omega)) rfl)) ?_
                          refine effStep 5 [20] (by kernel_rfl) closedSt (hLeft [0, 2, 17] (by kernel_rfl) (.c (bk 7 rfl) (.c (bk 6 rfl) (.c (bk 6 rfl) .n)))) ?_
                          refine (.c ?_ (.c ?_ .n))
                          · refine effOne rfl (gNone rfl (fV (ySub rfl rfl (by omega)) rfl)) ?_
                            refine effStep 20 [] (by kernel_rfl) closedSt (hLeft [0, 17] (by kernel_rfl) (.c (bk 7 rfl) (.c (bk 6 rfl) .n))) ?_
                            refine .c ?_ .n
                            refine effOne rfl (gNone rfl (fV (yAdd rfl rfl (by omega)) rfl)) ?_
                            refine effStep 21 [] (by kernel_rfl) closedSt (hLeft [0] (by kernel_rfl) (.c (bk 7 rfl) .n)) ?_
                            refine .c ?_ .n
                            refine effOne rfl (gNone rfl (fV (yCall rfl (.c rfl (.c rfl (.c rfl (.c rfl (.c rfl .n))))) C89 (fun w hw => knownL_any (sv0 l k x1 x2) _ _ _ _ w)) rfl)) ?_
                            refine effStep 22 [] (by kernel_rfl) closedSt (hLeft [] (by kernel_rfl) .n) ?_
                            refine .c ?_ .n
                            refine effOne rfl (gNone rfl (fStoreL 5 rfl rfl rfl rfl K58 rfl (rfl))) ?_
                            refine effDone closedSt (hLeft [] (by kernel_rfl) .n) (by kernel_rfl) ?_
                            exact kMeetX (zv1 l k r s c1 c2 x1 x2) (hmt) rfl .n (.c rfl (.c rfl (.c rfl (.c rfl (.c rfl (.c rfl (.c rfl (.c rfl (.c rfl (.c rfl (.c rfl (.c rfl .n)))))))))))) (.c 0 rfl (.c 0 rfl (.c 0 rfl (.c 0 rfl (.c 0 rfl (.c 0 rfl .r))))))
                          · refine effOne rfl (gNone rfl (fV (yAdd rfl rfl (by omega)) rfl)) ?_
                            refine effStep 5 [] (by kernel_rfl) closedSt (hLeft [0, 2] (by kernel_rfl) (.c (bk 7 rfl) (.c (bk 6 rfl) .n))) ?_
                            refine .c ?_ .n
                            refine effOne rfl (gNone rfl (fV (ySub rfl rfl (by omega)) rfl)) ?_
                            refine effStep 21 [] (by kernel_rfl) closedSt (hLeft [0] (by kernel_rfl) (.c (bk 7 rfl) .n)) ?_
                            refine .c ?_ .n
                            refine effOne rfl (gNone rfl (fV (yCall rfl (.c rfl (.c rfl (.c rfl (.c rfl (.c rfl .n))))) C89 (fun w hw => knownL_any (sv0 l k x1 x2) _ _ _ _ w)) rfl)) ?_
                            refine effStep 22 [] (by kernel_rfl) closedSt (hLeft [] (by kernel_rfl) .n) ?_
                            refine .c ?_ .n
                            refine effOne rfl (gNone rfl (fStoreL 5 rfl rfl rfl rfl K58 rfl (rfl))) ?_
                            refine effDone closedSt (hLeft [] (by kernel_rfl) .n) (by kernel_rfl) ?_
                            exact kMeetX (zv1 l k r s c1 c2 x1 x2) (hmt) rfl .n (.c rfl (.c rfl (.c rfl (.c rfl (.c rfl (.c rfl (.c rfl (.c rfl (.c rfl (.c rfl (.c rfl (.c rfl .n)))))))))))) (.c 0 rfl (.c 0 rfl (.c 0 rfl (.c 0 rfl (.c 0 rfl (.c 0 rfl .r))))))
                        · refine effOne rfl (gNone rfl (fV (yAdd rfl rfl (by omega)) rfl)) ?_
                          refine effStep 5 [15] (by kernel_rfl) closedSt (hLeft [0, 2, 12] (by kernel_rfl) (.c (bk 7 rfl) (.c (bk 6 rfl) (.c (bk 6 rfl) .n)))) ?_
                          refine (.c ?_ (.c ?_ .n))
                          · refine effOne rfl (gNone rfl (fV (ySub rfl rfl (by omega)) rfl)) ?_
                            refine effStep 15 [] (by kernel_rfl) closedSt (hLeft [0, 12] (by kernel_rfl) (.c (bk 7 rfl) (.c (bk 6 rfl) .n))) ?_
                            refine .c ?_ .n
                            refine effOne rfl (gNone rfl (fV (ySub rfl rfl (by omega)) rfl)) ?_
                            refine effStep 21 [] (by kernel_rfl) closedSt (hLeft [0] (by kernel_rfl) (.c (bk 7 rfl) .n)) ?_
                            refine .c ?_ .n
                            refine effOne rfl (gNone rfl (fV (yCall rfl (.c rfl (.c rfl (.c rfl (.c rfl (.c rfl .n))))) C89 (fun w hw => knownL_any (sv0 l k x1 x2) _ _ _ _ w)) rfl)) ?_
                            refine effStep 22 [] (by kernel_rfl) closedSt (hLeft [] (by kernel_rfl) .n) ?_
                            refine .c ?_ .n
                            refine effOne rfl (gNone rfl (fStoreL 5 rfl rfl rfl rfl K58 rfl (rfl))) ?_
                            refine effDone closedSt (hLeft [] (by kernel_rfl) .n) (by kernel_rfl) ?_
                            exact kMeetX (zv1 l k r s c1 c2 x1 x2) (hmt) rfl .n (.c rfl (.c rfl (.c rfl (.c rfl (.c rfl (.c rfl (.c rfl (.c rfl (.c rfl (.c rfl (.c rfl (.c rfl .n)))))))))))) (.c 0 rfl (.c 0 rfl (.c 0 rfl (.c 0 rfl (.c 0 rfl (.c 0 rfl .r))))))
                          · refine effOne rfl (gNone rfl (fV (ySub rfl rfl (by omega)) rfl)) ?_
                            refine effStep 5 [] (by kernel_rfl) closedSt (hLeft [0, 2] (by kernel_rfl) (.c (bk 7 rfl) (.c (bk 6 rfl) .n))) ?_
                            refine .c ?_ .n
                            refine effOne rfl (gNone rfl (fV (ySub rfl rfl (by omega)) rfl)) ?_
                            refine effStep 21 [] (by kernel_rfl) closedSt (hLeft [0] (by kernel_rfl) (.c (bk 7 rfl) .n)) ?_
                            refine .c ?_ .n
                            refine effOne rfl (gNone rfl (fV (yCall rfl (.c rfl (.c rfl (.c rfl (.c rfl (.c rfl .n))))) C89 (fun w hw => knownL_any (sv0 l k x1 x2) _ _ _ _ w)) rfl)) ?_
                            refine effStep 22 [] (by kernel_rfl) closedSt (hLeft [] (by kernel_rfl) .n) ?_
                            refine .c ?_ .n
                            refine effOne rfl (gNone rfl (fStoreL 5 rfl rfl rfl rfl K58 rfl (rfl))) ?_
                            refine effDone closedSt (hLeft [] (by kernel_rfl) .n) (by kernel_rfl) ?_
                            exact kMeetX (zv1 l k r s c1 c2 x1 x2) (hmt) rfl .n (.c rfl (.c rfl (.c rfl (.c rfl (.c rfl (.c rfl (.c rfl (.c rfl (.c rfl (.c rfl (.c rfl (.c rfl .n)))))))))))) (.c 0 rfl (.c 0 rfl (.c 0 rfl (.c 0 rfl (.c 0 rfl (.c 0 rfl .r))))))
                      · refine effOne rfl (gNone rfl (fV (ySub rfl rfl (by omega)) rfl)) ?_
                        refine effStep 5 [10, 20] (by kernel_rfl) closedSt (hLeft [0, 2, 7, 17] (by kernel_rfl) (.c (bk 7 rfl) (.c (bk 6 rfl) (.c (bk 6 rfl) (.c (bk 6 rfl) .n))))) ?_
                        refine (.c ?_ (.c ?_ (.c ?_ .n)))
                        · refine effOne rfl (gNone rfl (fV (ySub rfl rfl (by omega)) rfl)) ?_
                          refine effStep 10 [20] (by kernel_rfl) closedSt (hLeft [0, 7, 17] (by kernel_rfl) (.c (bk 7 rfl) (.c (bk 6 rfl) (.c (bk 6 rfl) .n)))) ?_
                          refine (.c ?_ (.c ?_ .n))
                          · refine effOne rfl (gNone rfl (fV (yAdd rfl rfl (by omega)) rfl)) ?_
                            refine effStep 20 [] (by kernel_rfl) closedSt (hLeft [0, 17] (by kernel_rfl) (.c (bk 7 rfl) (.c (bk 6 rfl) .n))) ?_
                            refine .c ?_ .n
                            refine effOne rfl (gNone rfl (fV (yAdd rfl rfl (by omega)) rfl)) ?_
                            refine effStep 21 [] (by kernel_rfl) closedSt (hLeft [0] (by kernel_rfl) (.c (bk 7 rfl) .n)) ?_
                            refine .c ?_ .n
                            refine effOne rfl (gNone rfl (fV (yCall rfl (.c rfl (.c rfl (.c rfl (.c rfl (.c rfl .n))))) C89 (fun w hw => knownL_any (sv0 l k x1 x2) _ _ _ _ w)) rfl)) ?_
                            refine effStep 22 [] (by kernel_rfl) closedSt (hLeft [] (by kernel_rfl) .n) ?_
                            refine .c ?_ .n
                            refine effOne rfl (gNone rfl (fStoreL 5 rfl rfl rfl rfl K58 rfl (rfl))) ?_
                            refine effDone closedSt (hLeft [] (by kernel_rfl) .n) (by kernel_rfl) ?_
                            exact kMeetX (zv1 l k r s c1 c2 x1 x2) (hmt) rfl .n (.c rfl (.c rfl (.c rfl (.c rfl (.c rfl (.c rfl (.c rfl (.c rfl (.c rfl (.c rfl (.c rfl (.c rfl .n)))))))))))) (.c 0 rfl (.c 0 rfl (.c 0 rfl (.c 0 rfl (.c 0 rfl (.c 0 rfl .r))))))
                          · refine effOne rfl (gNone rfl (fV (yAdd rfl rfl (by omega)) rfl)) ?_
                            refine effStep 10 [] (by kernel_rfl) closedSt (hLeft [0, 7] (by kernel_rfl) (.c (bk 7 rfl) (.c (bk 6 rfl) .n))) ?_
                            refine .c ?_ .n
                            refine effOne rfl (gNone rfl (fV (yAdd rfl rfl (by omega)) rfl)) ?_
                            refine effStep 21 [] (by kernel_rfl) closedSt (hLeft [0] (by kernel_rfl) (.c (bk 7 rfl) .n)) ?_
                            refine .c ?_ .n
                            refine effOne rfl (gNone rfl (fV (yCall rfl (.c rfl (.c rfl (.c rfl (.c rfl (.c rfl .n))))) C89 (fun w hw => knownL_any (sv0 l k x1 x2) _ _ _ _ w)) rfl)) ?_
                            refine effStep 22 [] (by kernel_rfl) closedSt (hLeft [] (by kernel_rfl) .n) ?_
                            refine .c ?_ .n
                            refine effOne rfl (gNone rfl (fStoreL 5 rfl rfl rfl rfl K58 rfl (rfl))) ?_
                            refine effDone closedSt (hLeft [] (by kernel_rfl) .n) (by kernel_rfl) ?_
                            exact kMeetX (zv1 l k r s c1 c2 x1 x2) (hmt) rfl .n (.c rfl (.c rfl (.c rfl (.c rfl (.c rfl (.c rfl (.c rfl (.c rfl (.c rfl (.c rfl (.c rfl (.c rfl .n)))))))))))) (.c 0 rfl (.c 0 rfl (.c 0 rfl (.c 0 rfl (.c 0 rfl (.c 0 rfl .r))))))
                        · refine effOne rfl (gNone rfl (fV (yAdd rfl rfl (by omega)) rfl)) ?_
                          refine effStep 5 [20] (by kernel_rfl) closedSt (hLeft [0, 2, 17] (by kernel_rfl) (.c (bk 7 rfl) (.c (bk 6 rfl) (.c (bk 6 rfl) .n)))) ?_
                          refine (.c ?_ (.c ?_ .n))
                          · refine effOne rfl (gNone rfl (fV (ySub rfl rfl (by omega)) rfl)) ?_
                            refine effStep 20 [] (by kernel_rfl) closedSt (hLeft [0, 17] (by kernel_rfl) (.c (bk 7 rfl) (.c (bk 6 rfl) .n))) ?_
                            refine .c ?_ .n
                            refine effOne rfl (gNone rfl (fV (yAdd rfl rfl (by omega)) rfl)) ?_
                            refine effStep 21 [] (by kernel_rfl) closedSt (hLeft [0] (by kernel_rfl) (.c (bk 7 rfl) .n)) ?_
                            refine .c ?_ .n
                            refine effOne rfl (gNone rfl (fV (yCall rfl (.c rfl (.c rfl (.c rfl (.c rfl (.c rfl .n))))) C89 (fun w hw => knownL_any (sv0 l k x1 x2) _ _ _ _ w)) rfl)) ?_
                            refine effStep 22 [] (by kernel_rfl) closedSt (hLeft [] (by kernel_rfl) .n) ?_
                            refine .c ?_ .n
                            refine effOne rfl (gNone rfl (fStoreL 5 rfl rfl rfl rfl K58 rfl (rfl))) ?_
                            refine effDone closedSt (hLeft [] (by kernel_rfl) .n) (by kernel_rfl) ?_
                            exact kMeetX (zv1 l k r s c1 c2 x1 x2) (hmt) rfl .n (.c rfl (.c rfl (.c rfl (.c rfl (.c rfl (.c rfl (.c rfl (.c rfl (.c rfl (.c rfl (.c rfl (.c rfl .n)))))))))))) (.c 0 rfl (.c 0 rfl (.c 0 rfl (.c 0 rfl (.c 0 rfl (.c 0 rfl .r))))))
                          · refine effOne rfl (gNone rfl (fV (yAdd rfl rfl (by omega)) rfl)) ?_
                            refine effStep 5 [] (by kernel_rfl) closedSt (hLeft [0, 2] (by kernel_rfl) (.c (bk 7 rfl) (.c (bk 6 rfl) .n))) ?_
                            refine .c ?_ .n
                            refine effOne rfl (gNone rfl (fV (ySub rfl rfl (by omega)) rfl)) ?_
                            refine effStep 21 [] (by kernel_rfl) closedSt (hLeft [0] (by kernel_rfl) (.c (bk 7 rfl) .n)) ?_
                            refine .c ?_ .n
                            refine effOne rfl (gNone rfl (fV (yCall rfl (.c rfl (.c rfl (.c rfl (.c rfl (.c rfl .n))))) C89 (fun w hw => knownL_any (sv0 l k x1 x2) _ _ _ _ w)) rfl)) ?_
                            refine effStep 22 [] (by kernel_rfl) closedSt (hLeft [] (by kernel_rfl) .n) ?_
                            refine .c ?_ .n
                            refine effOne rfl (gNone rfl (fStoreL 5 rfl rfl rfl rfl K58 rfl (rfl))) ?_
                            refine effDone closedSt (hLeft [] (by kernel_rfl) .n) (by kernel_rfl) ?_
                            exact kMeetX (zv1 l k r s c1 c2 x1 x2) (hmt) rfl .n (.c rfl (.c rfl (.c rfl (.c rfl (.c rfl (.c rfl (.c rfl (.c rfl (.c rfl (.c rfl (.c rfl (.c rfl .n)))))))))))) (.c 0 rfl (.c 0 rfl (.c 0 rfl (.c 0 rfl (.c 0 rfl (.c 0 rfl .r))))))
                        · refine effOne rfl (gNone rfl (fV (yAdd rfl rfl (by omega)) rfl)) ?_
                          refine effStep 5 [10] (by kernel_rfl) closedSt (hLeft [0, 2, 7] (by kernel_rfl) (.c (bk 7 rfl) (.c (bk 6 rfl) (.c (bk 6 rfl) .n)))) ?_
                          refine (.c ?_ (.c ?_ .n))
                          · refine effOne rfl (gNone rfl (fV (ySub rfl rfl (by omega)) rfl)) ?_
                            refine effStep 10 [] (by kernel_rfl) closedSt (hLeft [0, 7] (by kernel_rfl) (.c (bk 7 rfl) (.c (bk 6 rfl) .n))) ?_
                            refine .c ?_ .n
                            refine effOne rfl (gNone rfl (fV (yAdd rfl rfl (by omega)) rfl)) ?_
                            refine effStep 21 [] (by kernel_rfl) closedSt (hLeft [0] (by kernel_rfl) (.c (bk 7 rfl) .n)) ?_
                            refine .c ?_ .n
                            refine effOne rfl (gNone rfl (fV (yCall rfl (.c rfl (.c rfl (.c rfl (.c rfl (.c rfl .n))))) C89 (fun w hw => knownL_any (sv0 l k x1 x2) _ _ _ _ w)) rfl)) ?_
                            refine effStep 22 [] (by kernel_rfl) closedSt (hLeft [] (by kernel_rfl) .n) ?_
                            refine .c ?_ .n
                            refine effOne rfl (gNone rfl (fStoreL 5 rfl rfl rfl rfl K58 rfl (rfl))) ?_
                            refine effDone closedSt (hLeft [] (by kernel_rfl) .n) (by kernel_rfl) ?_
                            exact kMeetX (zv1 l k r s c1 c2 x1 x2) (hmt) rfl .n (.c rfl (.c rfl (.c rfl (.c rfl (.c rfl (.c rfl (.c rfl (.c rfl (.c rfl (.c rfl (.c rfl (.c rfl .n)))))))))))) (.c 0 rfl (.c 0 rfl (.c 0 rfl (.c 0 rfl (.c 0 rfl (.c 0 rfl .r))))))
                          · refine effOne rfl (gNone rfl (fV (yAdd rfl rfl (by omega)) rfl)) ?_
                            refine effStep 5 [] (by kernel_rfl) closedSt (hLeft [0, 2] (by kernel_rfl) (.c (bk 7 rfl) (.c (bk 6 rfl) .n))) ?_
                            refine .c ?_ .n
                            refine effOne rfl (gNone rfl (fV (ySub rfl rfl (by omega)) rfl)) ?_
                            refine effStep 21 [] (by kernel_rfl) closedSt (hLeft [0] (by kernel_rfl) (.c (bk 7 rfl) .n)) ?_
                            refine .c ?_ .n
                            refine effOne rfl (gNone rfl (fV (yCall rfl (.c rfl (.c rfl (.c rfl (.c rfl (.c rfl .n))))) C89 (fun w hw => knownL_any (sv0 l k x1 x2) _ _ _ _ w)) rfl)) ?_
                            refine effStep 22 [] (by kernel_rfl) closedSt (hLeft [] (by kernel_rfl) .n) ?_
                            refine .c ?_ .n
                            refine effOne rfl (gNone rfl (fStoreL 5 rfl rfl rfl rfl K58 rfl (rfl))) ?_
                            refine effDone closedSt (hLeft [] (by kernel_rfl) .n) (by kernel_rfl) ?_
                            exact kMeetX (zv1 l k r s c1 c2 x1 x2) (hmt) rfl .n (.c rfl (.c rfl (.c rfl (.c rfl (.c rfl (.c rfl (.c rfl (.c rfl (.c rfl (.c rfl (.c rfl (.c rfl .n)))))))))))) (.c 0 rfl (.c 0 rfl (.c 0 rfl (.c 0 rfl (.c 0 rfl (.c 0 rfl .r))))))
                      · refine effOne rfl (gNone rfl (fV (yAdd rfl rfl (by omega)) rfl)) ?_
                        refine effStep 5 [10, 15] (by kernel_rfl) closedSt (hLeft [0, 2, 7, 12] (by kernel_rfl) (.c (bk 7 rfl) (.c (bk 6 rfl) (.c (bk 6 rfl) (.c (bk 6 rfl) .n))))) ?_
                        refine (.c ?_ (.c ?_ (.c ?_ .n)))
                        · refine effOne rfl (gNone rfl (fV (ySub rfl rfl (by omega)) rfl)) ?_
                          refine effStep 10 [15] (by kernel_rfl) closedSt (hLeft [0, 7, 12] (by kernel_rfl) (.c (bk 7 rfl) (.c (bk 6 rfl) (.c (bk 6 rfl) .n)))) ?_
                          refine (.c ?_ (.c ?_ .n))
                          · refine effOne rfl (gNone rfl (fV (yAdd rfl rfl (by omega)) rfl)) ?_
                            refine effStep 15 [] (by kernel_rfl) closedSt (hLeft [0, 12] (by kernel_rfl) (.c (bk 7 rfl) (.c (bk 6 rfl) .n))) ?_
                            refine .c ?_ .n
                            refine effOne rfl (gNone rfl (fV (ySub rfl rfl (by omega)) rfl)) ?_
                            refine effStep 21 [] (by kernel_rfl) closedSt (hLeft [0] (by kernel_rfl) (.c (bk 7 rfl) .n)) ?_
                            refine .c ?_ .n
                            refine effOne rfl (gNone rfl (fV (yCall rfl (.c rfl (.c rfl (.c rfl (.c rfl (.c rfl .n))))) C89 (fun w hw => knownL_any (sv0 l k x1 x2) _ _ _ _ w)) rfl)) ?_
                            refine effStep 22 [] (by kernel_rfl) closedSt (hLeft [] (by kernel_rfl) .n) ?_
                            refine .c ?_ .n
                            refine effOne rfl (gNone rfl (fStoreL 5 rfl rfl rfl rfl K58 rfl (rfl))) ?_
                            refine effDone closedSt (hLeft [] (by kernel_rfl) .n) (by kernel_rfl) ?_
                            exact kMeetX (zv1 l k r s c1 c2 x1 x2) (hmt) rfl .n (.c rfl (.c rfl (.c rfl (.c rfl (.c rfl (.c rfl (.c rfl (.c rfl (.c rfl (.c rfl (.c rfl (.c rfl .n)))))))))))) (.c 0 rfl (.c 0 rfl (.c 0 rfl (.c 0 rfl (.c 0 rfl (.c 0 rfl .r))))))
                          · refine effOne rfl (gNone rfl (fV (ySub rfl rfl (by omega)) rfl)) ?_
                            refine effStep 10 [] (by kernel_rfl) closedSt (hLeft [0, 7] (by kernel_rfl) (.c (bk 7 rfl) (.c (bk 6 rfl) .n))) ?_
                            refine .c ?_ .n
                            refine effOne rfl (gNone rfl (fV (yAdd rfl rfl (by omega)) rfl)) ?_
                            refine effStep 21 [] (by kernel_rfl) closedSt (hLeft [0] (by kernel_rfl) (.c (bk 7 rfl) .n)) ?_
                            refine .c ?_ .n
                            refine effOne rfl (gNone rfl (fV (yCall rfl (.c rfl (.c rfl (.c rfl (.c rfl (.c rfl .n))))) C89 (fun w hw => knownL_any (sv0 l k x1 x2) _ _ _ _ w)) rfl)) ?_
                            refine effStep 22 [] (by kernel_rfl) closedSt (hLeft [] (by kernel_rfl) .n) ?_
                            refine .c ?_ .n
                            refine effOne rfl (gNone rfl (fStoreL 5 rfl rfl rfl rfl K58 rfl (rfl))) ?_
                            refine effDone closedSt (hLeft [] (by kernel_rfl) .n) (by kernel_rfl) ?_
                            exact kMeetX (zv1 l k r s c1 c2 x1 x2) (hmt) rfl .n (.c rfl (.c rfl (.c rfl (.c rfl (.c rfl (.c rfl (.c rfl (.c rfl (.c rfl (.c rfl (.c rfl (.c rfl .n)))))))))))) (.c 0 rfl (.c 0 rfl (.c 0 rfl (.c 0 rfl (.c 0 rfl (.c 0 rfl .r))))))
                        · refine effOne rfl (gNone rfl (fV (yAdd rfl rfl (by omega)) rfl)) ?_
                          refine effStep 5 [15] (by kernel_rfl) closedSt (hLeft [0, 2, 12] (by kernel_rfl) (.c (bk 7 rfl) (.c (bk 6 rfl) (.c (bk 6 rfl) .n)))) ?_
                          refine (.c ?_ (.c ?_ .n))
                          · refine effOne rfl (gNone rfl (fV (ySub rfl rfl (by omega)) rfl)) ?_
                            refine effStep 15 [] (by kernel_rfl) closedSt (hLeft [0, 12] (by kernel_rfl) (.c (bk 7 rfl) (.c (bk 6 rfl) .n))) ?_
                            refine .c ?_ .n
                            refine effOne rfl (gNone rfl (fV (ySub rfl rfl (by omega)) rfl)) ?_
                            refine effStep 21 [] (by kernel_rfl) closedSt (hLeft [0] (by kernel_rfl) (.c (bk 7 rfl) .n)) ?_
                            refine .c ?_ .n
                            refine effOne rfl (gNone rfl (fV (yCall rfl (.c rfl (.c rfl (.c rfl (.c rfl (.c rfl .n))))) C89 (fun w hw => knownL_any (sv0 l k x1 x2) _ _ _ _ w)) rfl)) ?_
                            refine effStep 22 [] (by kernel_rfl) closedSt (hLeft [] (by kernel_rfl) .n) ?_
                            refine .c ?_ .n
                            refine effOne rfl (gNone rfl (fStoreL 5 rfl rfl rfl rfl K58 rfl (rfl))) ?_
                            refine effDone closedSt (hLeft [] (by kernel_rfl) .n) (by kernel_rfl) ?_
                            exact kMeetX (zv1 l k r s c1 c2 x1 x2) (hmt) rfl .n (.c rfl (.c rfl (.c rfl (.c rfl (.c rfl (.c rfl (.c rfl (.c rfl (.c rfl (.c rfl (.c rfl (.c rfl .n)))))))))))) (.c 0 rfl (.c 0 rfl (.c 0 rfl (.c 0 rfl (.c 0 rfl (.c 0 rfl .r))))))
                          · refine effOne rfl (gNone rfl (fV (ySub rfl rfl (by omega)) rfl)) ?_
                            refine effStep 5 [] (by kernel_rfl) closedSt (hLeft [0, 2] (by kernel_rfl) (.c (bk 7 rfl) (.c (bk 6 rfl) .n))) ?_
                            refine .c ?_ .n
                            refine effOne rfl (gNone rfl (fV (ySub rfl rfl (by omega)) rfl)) ?_
                            refine effStep 21 [] (by kernel_rfl) closedSt (hLeft [0] (by kernel_rfl) (.c (bk 7 rfl) .n)) ?_
                            refine .c ?_ .n
                            refine effOne rfl (gNone rfl (fV (yCall rfl (.c rfl (.c rfl (.c rfl (.c rfl (.c rfl .n))))) C89 (fun w hw => knownL_any (sv0 l k x1 x2) _ _ _ _ w)) rfl)) ?_
                            refine effStep 22 [] (by kernel_rfl) closedSt (hLeft [] (by kernel_rfl) .n) ?_
                            refine .c ?_ .n
                            refine effOne rfl (gNone rfl (fStoreL 5 rfl rfl rfl rfl K58 rfl (rfl))) ?_
                            refine effDone closedSt (hLeft [] (by kernel_rfl) .n) (by kernel_rfl) ?_
                            exact kMeetX (zv1 l k r s c1 c2 x1 x2) (hmt) rfl .n (.c rfl (.c rfl (.c rfl (.c rfl (.c rfl (.c rfl (.c rfl (.c rfl (.c rfl (.c rfl (.c rfl (.c rfl .n)))))))))))) (.c 0 rfl (.c 0 rfl (.c 0 rfl (.c 0 rfl (.c 0 rfl (.c 0 rfl .r))))))
                        · refine effOne rfl (gNone rfl (fV (ySub rfl rfl (by omega)) rfl)) ?_
                          refine effStep 5 [10] (by kernel_rfl) closedSt (hLeft [0, 2, 7] (by kernel_rfl) (.c (bk 7 rfl) (.c (bk 6 rfl) (.c (bk 6 rfl) .n)))) ?_
                          refine (.c ?_ (.c ?_ .n))
                          · refine effOne rfl (gNone rfl (fV (ySub rfl rfl (by omega)) rfl)) ?_
                            refine effStep 10 [] (by kernel_rfl) closedSt (hLeft [0, 7] (by kernel_rfl) (.c (bk 7 rfl) (.c (bk 6 rfl) .n))) ?_
                            refine .c ?_ .n
                            refine effOne rfl (gNone rfl (fV (yAdd rfl rfl (by omega)) rfl)) ?_
                            refine effStep 21 [] (by kernel_rfl) closedSt (hLeft [0] (by kernel_rfl) (.c (bk 7 rfl) .n)) ?_
                            refine .c ?_ .n
                            refine effOne rfl (gNone rfl (fV (yCall rfl (.c rfl (.c rfl (.c rfl (.c rfl (.c rfl .n))))) C89 (fun w hw => knownL_any (sv0 l k x1 x2) _ _ _ _ w)) rfl)) ?_
                            refine effStep 22 [] (by kernel_rfl) closedSt (hLeft [] (by kernel_rfl) .n) ?_
                            refine .c ?_ .n
                            refine effOne rfl (gNone rfl (fStoreL 5 rfl rfl rfl rfl K58 rfl (rfl))) ?_
                            refine effDone closedSt (hLeft [] (by kernel_rfl) .n) (by kernel_rfl) ?_
                            exact kMeetX (zv1 l k r s c1 c2 x1 x2) (hmt) rfl .n (.c rfl (.c rfl (.c rfl (.c rfl (.c rfl (.c rfl (.c rfl (.c rfl (.c rfl (.c rfl (.c rfl (.c rfl .n)))))))))))) (.c 0 rfl (.c 0 rfl (.c 0 rfl (.c 0 rfl (.c 0 rfl (.c 0 rfl .r))))))
                          · refine effOne rfl (gNone rfl (fV (yAdd rfl rfl (by omega)) rfl)) ?_
                            refine effStep 5 [] (by kernel_rfl) closedSt (hLeft [0, 2] (by kernel_rfl) (.c (bk 7 rfl) (.c (bk 6 rfl) .n))) ?_
                            refine .c ?_ .n
                            refine effOne rfl (gNone rfl (fV (ySub rfl rfl (by omega)) rfl)) ?_
                            refine effStep 21 [] (by kernel_rfl) closedSt (hLeft [0] (by kernel_rfl) (.c (bk 7 rfl) .n)) ?_
                            refine .c ?_ .n
                            refine effOne rfl (gNone rfl (fV (yCall rfl (.c rfl (.c rfl (.c rfl (.c rfl (.c rfl .n))))) C89 (fun w hw => knownL_any (sv0 l k x1 x2) _ _ _ _ w)) rfl)) ?_
                            refine effStep 22 [] (by kernel_rfl) closedSt (hLeft [] (by kernel_rfl) .n) ?_
                            refine .c ?_ .n
                            refine effOne rfl (gNone rfl (fStoreL 5 rfl rfl rfl rfl K58 rfl (rfl))) ?_
                            refine effDone closedSt (hLeft [] (by kernel_rfl) .n) (by kernel_rfl) ?_
                            exact kMeetX (zv1 l k r s c1 c2 x1 x2) (hmt) rfl .n (.c rfl (.c rfl (.c rfl (.c rfl (.c rfl (.c rfl (.c rfl (.c rfl (.c rfl (.c rfl (.c rfl (.c rfl .n)))))))))))) (.c 0 rfl (.c 0 rfl (.c 0 rfl (.c 0 rfl (.c 0 rfl (.c 0 rfl .r))))))
              · refine kIfF rfl ?_
                refine kSkip ?_
                exact kMeetX (((sv0 l k x1 x2), r)) (⟨star_made bs hcd hmd _ rfl rfl fun h => (by cases h), by dsimp only; omega⟩) rfl .n (.c rfl (.c rfl (.c rfl (.c rfl (.c rfl (.c rfl (.c rfl (.c rfl (.c rfl (.c rfl (.c rfl (.c rfl .n)))))))))))) (.c 0 rfl (.c 0 rfl (.c 0 rfl (.c 0 rfl (.c 0 rfl (.c 0 rfl .r))))))
            · obtain ⟨sv, k2⟩ := z
              obtain ⟨hsv, hk2⟩ := hz
              dsimp only at hsv hk2 ⊢
              have hl1 := hA.l1
              have hl2 := hA.l2
              have hl3 := hA.l3
              refine kCutQ (ι := Own × Own × Own) (fun z => OS 9 z.1 ((st ++ [sv]).map rowS) ∧ OS 2 z.2.1 ((im ++ [(x1, x2)]).map rowE) ∧ OS 2 z.2.2 ((sk ++ [(c1 + s * x1 / 1000, c2 + s * x2 / 1000)]).map rowE)) (fun z => [(5, osV z.2.1 (im.map rowE ++ [rowE (x1, x2)]).length), (6, osV z.2.2 (sk.map rowE ++ [rowE (c1 + s * x1 / 1000, c2 + s * x2 / 1000)]).length)]) [(1, _), (2, _), (3, _), (4, _), (7, _), (33, _), (34, _)] (fun z => [(nb, blk [i64 (k2 : Nat)] 3), (nc, blk [.slice a l.length c] 43)]) (fun z => ([(n2, blk [i64 (s - d1), i64 (s + d2), osV z.1 (st.map rowS ++ [rowS sv]).length] 26)] ++ ((osL 58 z.1 ++ osL 45 z.2.1) ++ osL 45 z.2.2))) [(n1, _), (n4, _)] (.c rfl (.c rfl (.c rfl (.c rfl (.c rfl (.c rfl (.c rfl .n))))))) (.c 0 rfl (.c 0 rfl .n)) ?_ (fun z hz => ?_)
              · refine kDrawE [(1, none), (2, none), (6, some [3]), (10, some [4])] [] [0, 1, 2, 5, 6, 9, 10, 13] 9 hMix (by kernel_rfl) ?_
                refine .run rfl (yFieldAddr rfl F26_1) rfl rfl ?_
                refine .run rfl (yLoad1 rfl O24 (cOwn 4 rfl rfl)) rfl rfl ?_
                refine .run rfl (yLoadA (vs := [_, _, _, _, _, _, _, _, _]) rfl A58 (cOwn 7 rfl rfl)) rfl rfl ?_
                refine .run rfl (yMove rfl) rfl rfl ?_
                refine .run rfl (yLoadA (vs := [_, _]) rfl A45 (cOwn 2 rfl rfl)) rfl rfl ?_
                refine .run rfl (yMove rfl) rfl rfl ?_
                refine .run rfl (yLoadA (vs := [_, _]) rfl A45 (cOwn 2 rfl rfl)) rfl rfl ?_
                refine .run rfl (yFieldAddr rfl F26_1) rfl rfl ?_
                refine .done ?_
                refine effStep 3 [7, 11] (by kernel_rfl) closedSt (hLeft [1, 2, 6, 10] (by kernel_rfl) (.c (fun _ _ hs => hs.ef) (.c (fun _ _ hs => hs.ef) (.c (fun _ _ hs => hs.ef.sub (.c 3 rfl .n)) (.c (fun _ _ hs => hs.ef.sub (.c 4 rfl .n)) .n))))) ?_
                refine (.c ?_ (.c ?_ (.c ?_ .n)))
                · refine effOne rfl (gNone rfl (fBuildSlice (.c rfl .n) (fun w => BS24_1_0 w))) ?_
                  refine effStep 4 [7, 11] (by kernel_rfl) (closedEx fun n95 => closedSt) (hLeft [1, 6, 10] (by kernel_rfl) (.c (fun _ _ ⟨n95, hs⟩ => hs.ef.sub (.c 1 rfl (.c 1 rfl (.c 1 rfl (.c 1 rfl (.c 1 rfl (.c 1 rfl (.d 0 .r)))))))) (.c (fun _ _ ⟨n95, hs⟩ => hs.ef.sub (.c 4 rfl .n)) (.c (fun _ _ ⟨n95, hs⟩ => hs.ef.sub (.c 5 rfl .n)) .n)))) ?_
                  refine (.c ?_ (.c ?_ (.c ?_ .n)))
                  · refine effOne rfl (opEx fun n95 => (gNone rfl (fAppend (gs := g1) ([(n95, _), (n1, _), (n4, _), (n2, _), (n8, _), (n9, _), (n10, _)] ++ (osL 45 g2 ++ osL 45 g3)) [rowS sv] AP24 rfl rfl (.c 0 rfl (.c 0 rfl (.c 0 rfl (.c 0 rfl (.c 0 rfl (.c 0 rfl (.c 0 rfl (by exact (show SubP ((osL 45 g2 ++ osL 45 g3) ++ osL 58 g1) ((osL 58 g1 ++ osL 45 g2) ++ osL 45 g3) from SubP.rot' _ _ _))))))))) hg1 rfl (rowsS_len [_]) (SlN.own 2 rfl rfl) (rowsS_one [_]) (by simp; omega) (by simp; omega)))) ?_
                    refine effStep 7 [11] (by kernel_rfl) (closedEx fun n95 => (closedEx fun h1 => closedSt)) (hLeft [6, 10] (by kernel_rfl) (.c (fun _ _ ⟨n95, ⟨h1, hs⟩⟩ => hs.ef.sub (.c 4 rfl .n)) (.c (fun _ _ ⟨n95, ⟨h1, hs⟩⟩ => hs.ef.sub (.c 5 rfl .n)) .n))) ?_
                    refine (.c ?_ (.c ?_ .n))
                    · refine effOne rfl (opEx fun n95 => (opEx fun h1 => (gNone rfl (fBuildSlice (.c rfl .n) (fun w => BS46_1_0 w))))) ?_
                      refine effStep 8 [11] (by kernel_rfl) (closedEx fun n95 => (closedEx fun h1 => (closedEx fun n99 => closedSt))) (hLeft [10] (by kernel_rfl) (.c (fun _ _ ⟨n95, ⟨h1, ⟨n99, hs⟩⟩⟩ => hs.ef.sub (.c 6 rfl .n)) .n)) ?_
                      refine (.c ?_ (.c ?_ .n))
                      · refine effOne rfl (opEx fun n95 => (opEx fun h1 => (opEx fun n99 => (gNone rfl (fAppend (gs := g2) ([(n99, _), (n95, _), (n1, _), (n4, _), (n2, _), (n8, _), (n9, _), (n10, _)] ++ (osL 45 g3 ++ osL 58 h1.1)) [rowE (x1, x2)] AP46 rfl rfl (.c 0 rfl (.c 0 rfl (.c 0 rfl (.c 0 rfl (.c 0 rfl (.c 0 rfl (.c 0 rfl (.c 0 rfl (by exact (show SubP ((osL 45 g3 ++ osL 58 h1.1) ++ osL 45 g2) ((osL 45 g2 ++ osL 45 g3) ++ osL 58 h1.1) from SubP.rot' _ _ _)))))))))) hg2 rfl (rowsE_len [_]) (SlN.own 2 rfl rfl) (rowsE_one [_]) (by simp; omega) (by simp; omega)))))) ?_
                        refine effStep 11 [] (by kernel_rfl) (closedEx fun n95 => (closedEx fun h1 => (closedEx fun n99 => (closedEx fun h2 => closedSt)))) (hLeft [10] (by kernel_rfl) (.c (fun _ _ ⟨n95, ⟨h1, ⟨n99, ⟨h2, hs⟩⟩⟩⟩ => hs.ef.sub (.c 6 rfl .n)) .n)) ?_
                        refine .c ?_ .n
                        refine effOne rfl (opEx fun n95 => (opEx fun h1 => (opEx fun n99 => (opEx fun h2 => (gNone rfl (fBuildSlice (.c rfl .n) (fun w => BS46_1_0 w))))))) ?_
                        refine effStep 12 [] (by kernel_rfl) (closedEx fun n95 => (closedEx fun h1 => (closedEx fun n99 => (closedEx fun h2 => (closedEx fun n103 => closedSt))))) (hLeft [] (by kernel_rfl) .n) ?_
                        refine .c ?_ .n
                        refine effOne rfl (opEx fun n95 => (opEx fun h1 => (opEx fun n99 => (opEx fun h2 => (opEx fun n103 => (gNone rfl (fAppend (gs := g3) ([(n103, _), (n99, _), (n95, _), (n1, _), (n4, _), (n2, _), (n8, _), (n9, _), (n10, _)] ++ (osL 58 h1.1 ++ osL 45 h2.1)) [rowE (c1 + s * x1 / 1000, c2 + s * x2 / 1000)] AP46 rfl rfl (.c 0 rfl (.c 0 rfl (.c 0 rfl (.c 0 rfl (.c 0 rfl (.c 0 rfl (.c 0 rfl (.c 0 rfl (.c 0 rfl (by exact (show SubP ((osL 58 h1.1 ++ osL 45 h2.1) ++ osL 45 g3) ((osL 45 g3 ++ osL 58 h1.1) ++ osL 45 h2.1) from SubP.rot' _ _ _))))))))))) hg3 rfl (rowsE_len [_]) (SlN.own 2 rfl rfl) (rowsE_one [_]) (by simp; omega) (by simp; omega)))))))) ?_
                        refine effStep 14 [] (by kernel_rfl) (closedEx fun n95 => (closedEx fun h1 => (closedEx fun n99 => (closedEx fun h2 => (closedEx fun n103 => (closedEx fun h3 => closedSt)))))) (hLeft [] (by kernel_rfl) .n) ?_
                        refine .c ?_ .n
                        refine effOne rfl (opEx fun n95 => (opEx fun h1 => (opEx fun n99 => (opEx fun h2 => (opEx fun n103 => (opEx fun h3 => (gNone rfl (fStoreL 5 rfl rfl rfl rfl K24 rfl (rfl))))))))) ?_
                        refine effStep 15 [] (by kernel_rfl) (closedEx fun n95 => (closedEx fun h1 => (closedEx fun n99 => (closedEx fun h2 => (closedEx fun n103 => (closedEx fun h3 => closedSt)))))) (hLeft [] (by kernel_rfl) .n) ?_
                        refine .c ?_ .n
                        refine effOne rfl (opEx fun n95 => (opEx fun h1 => (opEx fun n99 => (opEx fun h2 => (opEx fun n103 => (opEx fun h3 => (gNone rfl (fV (yAssign rfl) rfl)))))))) ?_
                        refine effStep 16 [] (by kernel_rfl) (closedEx fun n95 => (closedEx fun h1 => (closedEx fun n99 => (closedEx fun h2 => (closedEx fun n103 => (closedEx fun h3 => closedSt)))))) (hLeft [] (by kernel_rfl) .n) ?_
                        refine .c ?_ .n
                        refine effOne rfl (opEx fun n95 => (opEx fun h1 => (opEx fun n99 => (opEx fun h2 => (opEx fun n103 => (opEx fun h3 => (gNone rfl (fV (yAssign rfl) rfl)))))))) ?_
                        refine effDone (closedEx fun n95 => (closedEx fun h1 => (closedEx fun n99 => (closedEx fun h2 => (closedEx fun n103 => (closedEx fun h3 => closedSt)))))) (hLeft [] (by kernel_rfl) .n) (by kernel_rfl) ?_
                        refine trEx fun n95 => ?_
                        refine trEx fun h1 => ?_
                        refine trEx fun n99 => ?_
                        refine trEx fun h2 => ?_
                        refine trEx fun n103 => ?_
                        refine trEx fun h3 => ?_
                        exact kMeetX ((h1.1, h2.1, h3.1)) (⟨by rw [List.map_append]; exact h1.2, by rw [List.map_append]; exact h2.2, by rw [List.map_append]; exact h3.2⟩) rfl (.c rfl (.c rfl .n)) (.c rfl (.c rfl (.c rfl (.c rfl (.c rfl (.c rfl (.c rfl .n))))))) (.c 3 rfl (.c 3 rfl (.c 3 rfl (.d 0 (.d 0 (.d 0 (.d 0 (.d 0 (.d 0 .r)))))))))
                      · refine effOne rfl (opEx fun n95 => (opEx fun h1 => (opEx fun n99 => (gNone rfl (fBuildSlice (.c rfl .n) (fun w => BS46_1_0 w)))))) ?_
                        refine effStep 8 [] (by kernel_rfl) (closedEx fun n95 => (closedEx fun h1 => (closedEx fun n99 => (closedEx fun n103 => closedSt)))) (hLeft [] (by kernel_rfl) .n) ?_
                        refine .c ?_ .n
                        refine effOne rfl (opEx fun n95 => (opEx fun h1 => (opEx fun n99 => (opEx fun n103 => (gNone rfl (fAppend (gs := g2) ([(n103, _), (n99, _), (n95, _), (n1, _), (n4, _), (n2, _), (n8, _), (n9, _), (n10, _)] ++ (osL 45 g3 ++ osL 58 h1.1)) [rowE (x1, x2)] AP46 rfl rfl (.c 0 rfl (.c 0 rfl (.c 0 rfl (.c 0 rfl (.c 0 rfl (.c 0 rfl (.c 0 rfl (.c 0 rfl (.c 0 rfl (by exact (show SubP ((osL 45 g3 ++ osL 58 h1.1) ++ osL 45 g2) ((osL 45 g2 ++ osL 45 g3) ++ osL 58 h1.1) from SubP.rot' _ _ _))))))))))) hg2 rfl (rowsE_len [_]) (SlN.own 3 rfl rfl) (rowsE_one [_]) (by simp; omega) (by simp; omega))))))) ?_
                        refine effStep 12 [] (by kernel_rfl) (closedEx fun n95 => (closedEx fun h1 => (closedEx fun n99 => (closedEx fun n103 => (closedEx fun h2 => closedSt))))) (hLeft [] (by kernel_rfl) .n) ?_
                        refine .c ?_ .n
                        refine effOne rfl (opEx fun n95 => (opEx fun h1 => (opEx fun n99 => (opEx fun n103 => (opEx fun h2 => (gNone rfl (fAppend (gs := g3) ([(n103, _), (n99, _), (n95, _), (n1, _), (n4, _), (n2, _), (n8, _), (n9, _), (n10, _)] ++ (osL 58 h1.1 ++ osL 45 h2.1)) [rowE (c1 + s * x1 / 1000, c2 + s * x2 / 1000)] AP46 rfl rfl (.c 0 rfl (.c 0 rfl (.c 0 rfl (.c 0 rfl (.c 0 rfl (.c 0 rfl (.c 0 rfl (.c 0 rfl (.c 0 rfl (by exact (show SubP ((osL 58 h1.1 ++ osL 45 h2.1) ++ osL 45 g3) ((osL 45 g3 ++ osL 58 h1.1) ++ osL 45 h2.1) from SubP.rot' _ _ _))))))))))) hg3 rfl (rowsE_len [_]) (SlN.own 2 rfl rfl) (rowsE_one [_]) (by simp; omega) (by simp; omega)))))))) ?_
                        refine effStep 14 [] (by kernel_rfl) (closedEx fun n95 => (closedEx fun h1 => (closedEx fun n99 => (closedEx fun n103 => (closedEx fun h2 => (closedEx fun h3 => closedSt)))))) (hLeft [] (by kernel_rfl) .n) ?_
                        refine .c ?_ .n
                        refine effOne rfl (opEx fun n95 => (opEx fun h1 => (opEx fun n99 => (opEx fun n103 => (opEx fun h2 => (opEx fun h3 => (gNone rfl (fStoreL 5 rfl rfl rfl rfl K24 rfl (rfl))))))))) ?_
                        refine effStep 15 [] (by kernel_rfl) (closedEx fun n95 => (closedEx fun h1 => (closedEx fun n99 => (closedEx fun n103 => (closedEx fun h2 => (closedEx fun h3 => closedSt)))))) (hLeft [] (by kernel_rfl) .n) ?_
                        refine .c ?_ .n
                        refine effOne rfl (opEx fun n95 => (opEx fun h1 => (opEx fun n99 => (opEx fun n103 => (opEx fun h2 => (opEx fun h3 => (gNone rfl (fV (yAssign rfl) rfl)))))))) ?_
                        refine effStep 16 [] (by kernel_rfl) (closedEx fun n95 => (closedEx fun h1 => (closedEx fun n99 => (closedEx fun n103 => (closedEx fun h2 => (closedEx fun h3 => closedSt)))))) (hLeft [] (by kernel_rfl) .n) ?_
                        refine .c ?_ .n
                        refine effOne rfl (opEx fun n95 => (opEx fun h1 => (opEx fun n99 => (opEx fun n103 => (opEx fun h2 => (opEx fun h3 => (gNone rfl (fV (yAssign rfl) rfl)))))))) ?_
                        refine effDone (closedEx fun n95 => (closedEx fun h1 => (closedEx fun n99 => (closedEx fun n103 => (closedEx fun h2 => (closedEx fun h3 => closedSt)))))) (hLeft [] (by kernel_rfl) .n) (by kernel_rfl) ?_
                        refine trEx fun n95 => ?_
                        refine trEx fun h1 => ?_
                        refine trEx fun n99 => ?_
                        refine trEx fun n103 => ?_
                        refine trEx fun h2 => ?_
                        refine trEx fun h3 => ?_
                        exact kMeetX ((h1.1, h2.1, h3.1)) (⟨by rw [List.map_append]; exact h1.2, by rw [List.map_append]; exact h2.2, by rw [List.map_append]; exact h3.2⟩) rfl (.c rfl (.c rfl .n)) (.c rfl (.c rfl (.c rfl (.c rfl (.c rfl (.c rfl (.c rfl .n))))))) (.c 3 rfl (.c 3 rfl (.c 3 rfl (.d 0 (.d 0 (.d 0 (.d 0 (.d 0 (.d 0 .r)))))))))
                    · refine effOne rfl (opEx fun n95 => (opEx fun h1 => (gNone rfl (fBuildSlice (.c rfl .n) (fun w => BS46_1_0 w))))) ?_
                      refine effStep 7 [] (by kernel_rfl) (closedEx fun n95 => (closedEx fun h1 => (closedEx fun n103 => closedSt))) (hLeft [6] (by kernel_rfl) (.c (fun _ _ ⟨n95, ⟨h1, ⟨n103, hs⟩⟩⟩ => hs.ef.sub (.c 5 rfl .n)) .n)) ?_
                      refine .c ?_ .n
                      refine effOne rfl (opEx fun n95 => (opEx fun h1 => (opEx fun n103 => (gNone rfl (fBuildSlice (.c rfl .n) (fun w => BS46_1_0 w)))))) ?_
                      refine effStep 8 [] (by kernel_rfl) (closedEx fun n95 => (closedEx fun h1 => (closedEx fun n103 => (closedEx fun n99 => closedSt)))) (hLeft [] (by kernel_rfl) .n) ?_
                      refine .c ?_ .n
                      refine effOne rfl (opEx fun n95 => (opEx fun h1 => (opEx fun n103 => (opEx fun n99 => (gNone rfl (fAppend (gs := g2) ([(n99, _), (n103, _), (n95, _), (n1, _), (n4, _), (n2, _), (n8, _), (n9, _), (n10, _)] ++ (osL 45 g3 ++ osL 58 h1.1)) [rowE (x1, x2)] AP46 rfl rfl (.c 0 rfl (.c 0 rfl (.c 0 rfl (.c 0 rfl (.c 0 rfl (.c 0 rfl (.c 0 rfl (.c 0 rfl (.c 0 rfl (by exact (show SubP ((osL 45 g3 ++ osL 58 h1.1) ++ osL 45 g2) ((osL 45 g2 ++ osL 45 g3) ++ osL 58 h1.1) from SubP.rot' _ _ _))))))))))) hg2 rfl (rowsE_len [_]) (SlN.own 2 rfl rfl) (rowsE_one [_]) (by simp; omega) (by simp; omega))))))) ?_
                      refine effStep 12 [] (by kernel_rfl) (closedEx fun n95 => (closedEx fun h1 => (closedEx fun n103 => (closedEx fun n99 => (closedEx fun h2 => closedSt))))) (hLeft [] (by kernel_rfl) .n) ?_
                      refine .c ?_ .n
                      refine effOne rfl (opEx fun n95 => (opEx fun h1 => (opEx fun n103 => (opEx fun n99 => (opEx fun h2 => (gNone rfl (fAppend (gs := g3) ([(n99, _), (n103, _), (n95, _), (n1, _), (n4, _), (n2, _), (n8, _), (n9, _), (n10, _)] ++ (osL 58 h1.1 ++ osL 45 h2.1)) [rowE (c1 + s * x1 / 1000, c2 + s * x2 / 1000)] AP46 rfl rfl (.c 0 rfl (.c 0 rfl (.c 0 rfl (.c 0 rfl (.c 0 rfl (.c 0 rfl (.c 0 rfl (.c 0 rfl (.c 0 rfl (by exact (show SubP ((osL 58 h1.1 ++ osL 45 h2.1) ++ osL 45 g3) ((osL 45 g3 ++ osL 58 h1.1) ++ osL 45 h2.1) from SubP.rot' _ _ _))))))))))) hg3 rfl (rowsE_len [_]) (SlN.own 3 rfl rfl) (rowsE_one [_]) (by simp; omega) (by simp; omega)))))))) ?_
                      refine effStep 14 [] (by kernel_rfl) (closedEx fun n95 => (closedEx fun h1 => (closedEx fun n103 => (closedEx fun n99 => (closedEx fun h2 => (closedEx fun h3 => closedSt)))))) (hLeft [] (by kernel_rfl) .n) ?_
                      refine .c ?_ .n
                      refine effOne rfl (opEx fun n95 => (opEx fun h1 => (opEx fun n103 => (opEx fun n99 => (opEx fun h2 => (opEx fun h3 => (gNone rfl (fStoreL 5 rfl rfl rfl rfl K24 rfl (rfl))))))))) ?_
                      refine effStep 15 [] (by kernel_rfl) (closedEx fun n95 => (closedEx fun h1 => (closedEx fun n103 => (closedEx fun n99 => (closedEx fun h2 => (closedEx fun h3 => closedSt)))))) (hLeft [] (by kernel_rfl) .n) ?_
                      refine .c ?_ .n
                      refine effOne rfl (opEx fun n95 => (opEx fun h1 => (opEx fun n103 => (opEx fun n99 => (opEx fun h2 => (opEx fun h3 => (gNone rfl (fV (yAssign rfl) rfl)))))))) ?_
                      refine effStep 16 [] (by kernel_rfl) (closedEx fun n95 => (closedEx fun h1 => (closedEx fun n103 => (closedEx fun n99 => (closedEx fun h2 => (closedEx fun h3 => closedSt)))))) (hLeft [] (by kernel_rfl) .n) ?_
                      refine .c ?_ .n
                      refine effOne rfl (opEx fun n95 => (opEx fun h1 => (opEx fun n103 => (opEx fun n99 => (opEx fun h2 => (opEx fun h3 => (gNone rfl (fV (yAssign rfl) rfl)))))))) ?_
                      refine effDone (closedEx fun n95 => (closedEx fun h1 => (closedEx fun n103 => (closedEx fun n99 => (closedEx fun h2 => (closedEx fun h3 => closedSt)))))) (hLeft [] (by kernel_rfl) .n) (by kernel_rfl) ?_
                      refine trEx fun n95 => ?_
                      refine trEx fun h1 => ?_
                      refine trEx fun n103 => ?_
                      refine trEx fun n99 => ?_
                      refine trEx fun h2 => ?_
                      refine trEx fun h3 => ?_
                      exact kMeetX ((h1.1, h2.1, h3.1)) (⟨by rw [List.map_append]; exact h1.2, by rw [List.map_append]; exact h2.2, by rw [List.map_append]; exact h3.2⟩) rfl (.c rfl (.c rfl .n)) (.c rfl (.c rfl (.c rfl (.c rfl (.c rfl (.c rfl (.c rfl .n))))))) (.c 3 rfl (.c 3 rfl (.c 3 rfl (.d 0 (.d 0 (.d 0 (.d 0 (.d 0 (.d 0 .r)))))))))
                  · refine effOne rfl (opEx fun n95 => (gNone rfl (fBuildSlice (.c rfl .n) (fun w => BS46_1_0 w)))) ?_
                    refine effStep 4 [11] (by kernel_rfl) (closedEx fun n95 => (closedEx fun n99 => closedSt)) (hLeft [1, 10] (by kernel_rfl) (.c (fun _ _ ⟨n95, ⟨n99, hs⟩⟩ => hs.ef.sub (.c 2 rfl (.c 2 rfl (.c 2 rfl (.c 2 rfl (.c 2 rfl (.c 2 rfl (.d 0 (.d 0 .r))))))))) (.c (fun _ _ ⟨n95, ⟨n99, hs⟩⟩ => hs.ef.sub (.c 6 rfl .n)) .n))) ?_
                    refine (.c ?_ (.c ?_ .n))
                    · refine effOne rfl (opEx fun n95 => (opEx fun n99 => (gNone rfl (fAppend (gs := g1) ([(n99, _), (n95, _), (n1, _), (n4, _), (n2, _), (n8, _), (n9, _), (n10, _)] ++ (osL 45 g2 ++ osL 45 g3)) [rowS sv] AP24 rfl rfl (.c 0 rfl (.c 0 rfl (.c 0 rfl (.c 0 rfl (.c 0 rfl (.c 0 rfl (.c 0 rfl (.c 0 rfl (by exact (show SubP ((osL 45 g2 ++ osL 45 g3) ++ osL 58 g1) ((osL 58 g1 ++ osL 45 g2) ++ osL 45 g3) from SubP.rot' _ _ _)))))))))) hg1 rfl (rowsS_len [_]) (SlN.own 3 rfl rfl) (rowsS_one [_]) (by simp; omega) (by simp; omega))))) ?_
                      refine effStep 8 [11] (by kernel_rfl) (closedEx fun n95 => (closedEx fun n99 => (closedEx fun h1 => closedSt))) (hLeft [10] (by kernel_rfl) (.c (fun _ _ ⟨n95, ⟨n99, ⟨h1, hs⟩⟩⟩ => hs.ef.sub (.c 6 rfl .n)) .n)) ?_
                      refine (.c ?_ (.c ?_ .n))
                      · refine effOne rfl (opEx fun n95 => (opEx fun n99 => (opEx fun h1 => (gNone rfl (fAppend (gs := g2) ([(n99, _), (n95, _), (n1, _), (n4, _), (n2, _), (n8, _), (n9, _), (n10, _)] ++ (osL 45 g3 ++ osL 58 h1.1)) [rowE (x1, x2)] AP46 rfl rfl (.c 0 rfl (.c 0 rfl (.c 0 rfl (.c 0 rfl (.c 0 rfl (.c 0 rfl (.c 0 rfl (.c 0 rfl (by exact (show SubP ((osL 45 g3 ++ osL 58 h1.1) ++ osL 45 g2) ((osL 45 g2 ++ osL 45 g3) ++ osL 58 h1.1) from SubP.rot' _ _ _)))))))))) hg2 rfl (rowsE_len [_]) (SlN.own 2 rfl rfl) (rowsE_one [_]) (by simp; omega) (by simp; omega)))))) ?_
                        refine effStep 11 [] (by kernel_rfl) (closedEx fun n95 => (closedEx fun n99 => (closedEx fun h1 => (closedEx fun h2 => closedSt)))) (hLeft [10] (by kernel_rfl) (.c (fun _ _ ⟨n95, ⟨n99, ⟨h1, ⟨h2, hs⟩⟩⟩⟩ => hs.ef.sub (.c 6 rfl .n)) .n)) ?_
                        refine .c ?_ .n
                        refine effOne rfl (opEx fun n95 => (opEx fun n99 => (opEx fun h1 => (opEx fun h2 => (gNone rfl (fBuildSlice (.c rfl .n) (fun w => BS46_1_0 w))))))) ?_
                        refine effStep 12 [] (by kernel_rfl) (closedEx fun n95 => (closedEx fun n99 => (closedEx fun h1 => (closedEx fun h2 => (closedEx fun n103 => closedSt))))) (hLeft [] (by kernel_rfl) .n) ?_
                        refine .c ?_ .n
                        refine effOne rfl (opEx fun n95 => (opEx fun n99 => (opEx fun h1 => (opEx fun h2 => (opEx fun n103 => (gNone rfl (fAppend (gs := g3) ([(n103, _), (n99, _), (n95, _), (n1, _), (n4, _), (n2, _), (n8, _), (n9, _), (n10, _)] ++ (osL 58 h1.1 ++ osL 45 h2.1)) [rowE (c1 + s * x1 / 1000, c2 + s * x2 / 1000)] AP46 rfl rfl (.c 0 rfl (.c 0 rfl (.c 0 rfl (.c 0 rfl (.c 0 rfl (.c 0 rfl (.c 0 rfl (.c 0 rfl (.c 0 rfl (by exact (show SubP ((osL 58 h1.1 ++ osL 45 h2.1) ++ osL 45 g3) ((osL 45 g3 ++ osL 58 h1.1) ++ osL 45 h2.1) from SubP.rot' _ _ _))))))))))) hg3 rfl (rowsE_len [_]) (SlN.own 2 rfl rfl) (rowsE_one [_]) (by simp; omega) (by simp; omega)))))))) ?_
                        refine effStep 14 [] (by kernel_rfl) (closedEx fun n95 => (closedEx fun n99 => (closedEx fun h1 => (closedEx fun h2 => (closedEx fun n103 => (closedEx fun h3 => closedSt)))))) (hLeft [] (by kernel_rfl) .n) ?_
                        refine .c ?_ .n
                        refine effOne rfl (opEx fun n95 => (opEx fun n99 => (opEx fun h1 => (opEx fun h2 => (opEx fun n103 => (opEx fun h3 => (gNone rfl (fStoreL 5 rfl rfl rfl rfl K24 rfl (rfl))))))))) ?_
                        refine effStep 15 [] (by kernel_rfl) (closedEx fun n95 => (closedEx fun n99 => (closedEx fun h1 => (closedEx fun h2 => (closedEx fun n103 => (closedEx fun h3 => closedSt)))))) (hLeft [] (by kernel_rfl) .n) ?_
                        refine .c ?_ .n
                        refine effOne rfl (opEx fun n95 => (opEx fun n99 => (opEx fun h1 => (opEx fun h2 => (opEx fun n103 => (opEx fun h3 => (gNone rfl (fV (yAssign rfl) rfl)))))))) ?_
                        refine effStep 16 [] (by kernel_rfl) (closedEx fun n95 => (closedEx fun n99 => (closedEx fun h1 => (closedEx fun h2 => (closedEx fun n103 => (closedEx fun h3 => closedSt)))))) (hLeft [] (by kernel_rfl) .n) ?_
                        refine .c ?_ .n
                        refine effOne rfl (opEx fun n95 => (opEx fun n99 => (opEx fun h1 => (opEx fun h2 => (opEx fun n103 => (opEx fun h3 => (gNone rfl (fV (yAssign rfl) rfl)))))))) ?_
                        refine effDone (closedEx fun n95 => (closedEx fun n99 => (closedEx fun h1 => (closedEx fun h2 => (closedEx fun n103 => (closedEx fun h3 => closedSt)))))) (hLeft [] (by kernel_rfl) .n) (by kernel_rfl) ?_
                        refine trEx fun n95 => ?_
                        refine trEx fun n99 => ?_
                        refine trEx fun h1 => ?_
                        refine trEx fun h2 => ?_
                        refine trEx fun n103 => ?_
                        refine trEx fun h3 => ?_
                        exact kMeetX ((h1.1, h2.1, h3.1)) (⟨by rw [List.map_append]; exact h1.2, by rw [List.map_append]; exact h2.2, by rw [List.map_append]; exact h3.2⟩) rfl (.c rfl (.c rfl .n)) (.c rfl (.c rfl (.c rfl (.c rfl (.c rfl (.c rfl (.c rfl .n))))))) (.c 3 rfl (.c 3 rfl (.c 3 rfl (.d 0 (.d 0 (.d 0 (.d 0 (.d 0 (.d 0 .r)))))))))
                      · refine effOne rfl (opEx fun n95 => (opEx fun n99 => (opEx fun h1 => (gNone rfl (fBuildSlice (.c rfl .n) (fun w => BS46_1_0 w)))))) ?_
                        refine effStep 8 [] (by kernel_rfl) (closedEx fun n95 => (closedEx fun n99 => (closedEx fun h1 => (closedEx fun n103 => closedSt)))) (hLeft [] (by kernel_rfl) .n) ?_
                        refine .c ?_ .n
                        refine effOne rfl (opEx fun n95 => (opEx fun n99 => (opEx fun h1 => (opEx fun n103 => (gNone rfl (fAppend (gs := g2) ([(n103, _), (n99, _), (n95, _), (n1, _), (n4, _), (n2, _), (n8, _), (n9, _), (n10, _)] ++ (osL 45 g3 ++ osL 58 h1.1)) [rowE (x1, x2)] AP46 rfl rfl (.c 0 rfl (.c 0 rfl (.c 0 rfl (.c 0 rfl (.c 0 rfl (.c 0 rfl (.c 0 rfl (.c 0 rfl (.c 0 rfl (by exact (show SubP ((osL 45 g3 ++ osL 58 h1.1) ++ osL 45 g2) ((osL 45 g2 ++ osL 45 g3) ++ osL 58 h1.1) from SubP.rot' _ _ _))))))))))) hg2 rfl (rowsE_len [_]) (SlN.own 3 rfl rfl) (rowsE_one [_]) (by simp; omega) (by simp; omega))))))) ?_
                        refine effStep 12 [] (by kernel_rfl) (closedEx fun n95 => (closedEx fun n99 => (closedEx fun h1 => (closedEx fun n103 => (closedEx fun h2 => closedSt))))) (hLeft [] (by kernel_rfl) .n) ?_
                        refine .c ?_ .n
                        refine effOne rfl (opEx fun n95 => (opEx fun n99 => (opEx fun h1 => (opEx fun n103 => (opEx fun h2 => (gNone rfl (fAppend (gs := g3) ([(n103, _), (n99, _), (n95, _), (n1, _), (n4, _), (n2, _), (n8, _), (n9, _), (n10, _)] ++ (osL 58 h1.1 ++ osL 45 h2.1)) [rowE (c1 + s * x1 / 1000, c2 + s * x2 / 1000)] AP46 rfl rfl (.c 0 rfl (.c 0 rfl (.c 0 rfl (.c 0 rfl (.c 0 rfl (.c 0 rfl (.c 0 rfl (.c 0 rfl (.c 0 rfl (by exact (show SubP ((osL 58 h1.1 ++ osL 45 h2.1) ++ osL 45 g3) ((osL 45 g3 ++ osL 58 h1.1) ++ osL 45 h2.1) from SubP.rot' _ _ _))))))))))) hg3 rfl (rowsE_len [_]) (SlN.own 2 rfl rfl) (rowsE_one [_]) (by simp; omega) (by simp; omega)))))))) ?_
                        refine effStep 14 [] (by kernel_rfl) (closedEx fun n95 => (closedEx fun n99 => (closedEx fun h1 => (closedEx fun n103 => (closedEx fun h2 => (closedEx fun h3 => closedSt)))))) (hLeft [] (by kernel_rfl) .n) ?_
                        refine .c ?_ .n
                        refine effOne rfl (opEx fun n95 => (opEx fun n99 => (opEx fun h1 => (opEx fun n103 => (opEx fun h2 => (opEx fun h3 => (gNone rfl (fStoreL 5 rfl rfl rfl rfl K24 rfl (rfl))))))))) ?_
                        refine effStep 15 [] (by kernel_rfl) (closedEx fun n95 => (closedEx fun n99 => (closedEx fun h1 => (closedEx fun n103 => (closedEx fun h2 => (closedEx fun h3 => closedSt)))))) (hLeft [] (by kernel_rfl) .n) ?_
                        refine .c ?_ .n
                        refine effOne rfl (opEx fun n95 => (opEx fun n99 => (opEx fun h1 => (opEx fun n103 => (opEx fun h2 => (opEx fun h3 => (gNone rfl (fV (yAssign rfl) rfl)))))))) ?_
                        refine effStep 16 [] (by kernel_rfl) (closedEx fun n95 => (closedEx fun n99 => (closedEx fun h1 => (closedEx fun n103 => (closedEx fun h2 => (closedEx fun h3 => closedSt)))))) (hLeft [] (by kernel_rfl) .n) ?_
                        refine .c ?_ .n
                        refine effOne rfl (opEx fun n95 => (opEx fun n99 => (opEx fun h1 => (opEx fun n103 => (opEx fun h2 => (opEx fun h3 => (gNone rfl (fV (yAssign rfl) rfl)))))))) ?_
                        refine effDone (closedEx fun n95 => (closedEx fun n99 => (closedEx fun h1 => (closedEx fun n103 => (closedEx fun h2 => (closedEx fun h3 => closedSt)))))) (hLeft [] (by kernel_rfl) .n) (by kernel_rfl) ?_
                        refine trEx fun n95 => ?_
                        refine trEx fun n99 => ?_
                        refine trEx fun h1 => ?_
                        refine trEx fun n103 => ?_
                        refine trEx fun h2 => ?_
                        refine trEx fun h3 => ?_
                        exact kMeetX ((h1.1, h2.1, h3.1)) (⟨by rw [List.map_append]; exact h1.2, by rw [List.map_append]; exact h2.2, by rw [List.map_append]; exact h3.2⟩) rfl (.c rfl (.c rfl .n)) (.c rfl (.c rfl (.c rfl (.c rfl (.c rfl (.c rfl (.c rfl .n))))))) (.c 3 rfl (.c 3 rfl (.c 3 rfl (.d 0 (.d 0 (.d 0 (.d 0 (.d 0 (.d 0 .r)))))))))
                    · refine effOne rfl (opEx fun n95 => (opEx fun n99 => (gNone rfl (fBuildSlice (.c rfl .n) (fun w => BS46_1_0 w))))) ?_
                      refine effStep 4 [] (by kernel_rfl) (closedEx fun n95 => (closedEx fun n99 => (closedEx fun n103 => closedSt))) (hLeft [1] (by kernel_rfl) (.c (fun _ _ ⟨n95, ⟨n99, ⟨n103, hs⟩⟩⟩ => hs.ef.sub (.c 3 rfl (.c 3 rfl (.c 3 rfl (.c 3 rfl (.c 3 rfl (.c 3 rfl (.d 0 (.d 0 (.d 0 .r)))))))))) .n)) ?_
                      refine .c ?_ .n
                      refine effOne rfl (opEx fun n95 => (opEx fun n99 => (opEx fun n103 => (gNone rfl (fAppend (gs := g1) ([(n103, _), (n99, _), (n95, _), (n1, _), (n4, _), (n2, _), (n8, _), (n9, _), (n10, _)] ++ (osL 45 g2 ++ osL 45 g3)) [rowS sv] AP24 rfl rfl (.c 0 rfl (.c 0 rfl (.c 0 rfl (.c 0 rfl (.c 0 rfl (.c 0 rfl (.c 0 rfl (.c 0 rfl (.c 0 rfl (by exact (show SubP ((osL 45 g2 ++ osL 45 g3) ++ osL 58 g1) ((osL 58 g1 ++ osL 45 g2) ++ osL 45 g3) from SubP.rot' _ _ _))))))))))) hg1 rfl (rowsS_len [_]) (SlN.own 4 rfl rfl) (rowsS_one [_]) (by simp; omega) (by simp; omega)))))) ?_
                      refine effStep 8 [] (by kernel_rfl) (closedEx fun n95 => (closedEx fun n99 => (closedEx fun n103 => (closedEx fun h1 => closedSt)))) (hLeft [] (by kernel_rfl) .n) ?_
                      refine .c ?_ .n
                      refine effOne rfl (opEx fun n95 => (opEx fun n99 => (opEx fun n103 => (opEx fun h1 => (gNone rfl (fAppend (gs := g2) ([(n103, _), (n99, _), (n95, _), (n1, _), (n4, _), (n2, _), (n8, _), (n9, _), (n10, _)] ++ (osL 45 g3 ++ osL 58 h1.1)) [rowE (x1, x2)] AP46 rfl rfl (.c 0 rfl (.c 0 rfl (.c 0 rfl (.c 0 rfl (.c 0 rfl (.c 0 rfl (.c 0 rfl (.c 0 rfl (.c 0 rfl (by exact (show SubP ((osL 45 g3 ++ osL 58 h1.1) ++ osL 45 g2) ((osL 45 g2 ++ osL 45 g3) ++ osL 58 h1.1) from SubP.rot' _ _ _))))))))))) hg2 rfl (rowsE_len [_]) (SlN.own 3 rfl rfl) (rowsE_one [_]) (by simp; omega) (by simp; omega))))))) ?_
                      refine effStep 12 [] (by kernel_rfl) (closedEx fun n95 => (closedEx fun n99 => (closedEx fun n103 => (closedEx fun h1 => (closedEx fun h2 => closedSt))))) (hLeft [] (by kernel_rfl) .n) ?_
                      refine .c ?_ .n
                      refine effOne rfl (opEx fun n95 => (opEx fun n99 => (opEx fun n103 => (opEx fun h1 => (opEx fun h2 => (gNone rfl (fAppend (gs := g3) ([(n103, _), (n99, _), (n95, _), (n1, _), (n4, _), (n2, _), (n8, _), (n9, _), (n10, _)] ++ (osL 58 h1.1 ++ osL 45 h2.1)) [rowE (c1 + s * x1 / 1000, c2 + s * x2 / 1000)] AP46 rfl rfl (.c 0 rfl (.c 0 rfl (.c 0 rfl (.c 0 rfl (.c 0 rfl (.c 0 rfl (.c 0 rfl (.c 0 rfl (.c 0 rfl (by exact (show SubP ((osL 58 h1.1 ++ osL 45 h2.1) ++ osL 45 g3) ((osL 45 g3 ++ osL 58 h1.1) ++ osL 45 h2.1) from SubP.rot' _ _ _))))))))))) hg3 rfl (rowsE_len [_]) (SlN.own 2 rfl rfl) (rowsE_one [_]) (by simp; omega) (by simp; omega)))))))) ?_
                      refine effStep 14 [] (by kernel_rfl) (closedEx fun n95 => (closedEx fun n99 => (closedEx fun n103 => (closedEx fun h1 => (closedEx fun h2 => (closedEx fun h3 => closedSt)))))) (hLeft [] (by kernel_rfl) .n) ?_
                      refine .c ?_ .n
                      refine effOne rfl (opEx fun n95 => (opEx fun n99 => (opEx fun n103 => (opEx fun h1 => (opEx fun h2 => (opEx fun h3 => (gNone rfl (fStoreL 5 rfl rfl rfl rfl K24 rfl (rfl))))))))) ?_
                      refine effStep 15 [] (by kernel_rfl) (closedEx fun n95 => (closedEx fun n99 => (closedEx fun n103 => (closedEx fun h1 => (closedEx fun h2 => (closedEx fun h3 => closedSt)))))) (hLeft [] (by kernel_rfl) .n) ?_
                      refine .c ?_ .n
                      refine effOne rfl (opEx fun n95 => (opEx fun n99 => (opEx fun n103 => (opEx fun h1 => (opEx fun h2 => (opEx fun h3 => (gNone rfl (fV (yAssign rfl) rfl)))))))) ?_
                      refine effStep 16 [] (by kernel_rfl) (closedEx fun n95 => (closedEx fun n99 => (closedEx fun n103 => (closedEx fun h1 => (closedEx fun h2 => (closedEx fun h3 => closedSt)))))) (hLeft [] (by kernel_rfl) .n) ?_
                      refine .c ?_ .n
                      refine effOne rfl (opEx fun n95 => (opEx fun n99 => (opEx fun n103 => (opEx fun h1 => (opEx fun h2 => (opEx fun h3 => (gNone rfl (fV (yAssign rfl) rfl)))))))) ?_
                      refine effDone (closedEx fun n95 => (closedEx fun n99 => (closedEx fun n103 => (closedEx fun h1 => (closedEx fun h2 => (closedEx fun h3 => closedSt)))))) (hLeft [] (by kernel_rfl) .n) (by kernel_rfl) ?_
                      refine trEx fun n95 => ?_
                      refine trEx fun n99 => ?_
                      refine trEx fun n103 => ?_
                      refine trEx fun h1 => ?_
                      refine trEx fun h2 => ?_
                      refine trEx fun h3 => ?_
                      exact kMeetX ((h1.1, h2.1, h3.1)) (⟨by rw [List.map_append]; exact h1.2, by rw [List.map_append]; exact h2.2, by rw [List.map_append]; exact h3.2⟩) rfl (.c rfl (.c rfl .n)) (.c rfl (.c rfl (.c rfl (.c rfl (.c rfl (.c rfl (.c rfl .n))))))) (.c 3 rfl (.c 3 rfl (.c 3 rfl (.d 0 (.d 0 (.d 0 (.d 0 (.d 0 (.d 0 .r)))))))))
                  · refine effOne rfl (opEx fun n95 => (gNone rfl (fBuildSlice (.c rfl .n) (fun w => BS46_1_0 w)))) ?_
                    refine effStep 4 [7] (by kernel_rfl) (closedEx fun n95 => (closedEx fun n103 => closedSt)) (hLeft [1, 6] (by kernel_rfl) (.c (fun _ _ ⟨n95, ⟨n103, hs⟩⟩ => hs.ef.sub (.c 2 rfl (.c 2 rfl (.c 2 rfl (.c 2 rfl (.c 2 rfl (.c 2 rfl (.d 0 (.d 0 .r))))))))) (.c (fun _ _ ⟨n95, ⟨n103, hs⟩⟩ => hs.ef.sub (.c 5 rfl .n)) .n))) ?_
                    refine (.c ?_ (.c ?_ .n))
                    · refine effOne rfl (opEx fun n95 => (opEx fun n103 => (gNone rfl (fAppend (gs := g1) ([(n103, _), (n95, _), (n1, _), (n4, _), (n2, _), (n8, _), (n9, _), (n10, _)] ++ (osL 45 g2 ++ osL 45 g3)) [rowS sv] AP24 rfl rfl (.c 0 rfl (.c 0 rfl (.c 0 rfl (.c 0 rfl (.c 0 rfl (.c 0 rfl (.c 0 rfl (.c 0 rfl (by exact (show SubP ((osL 45 g2 ++ osL 45 g3) ++ osL 58 g1) ((osL 58 g1 ++ osL 45 g2) ++ osL 45 g3) from SubP.rot' _ _ _)))))))))) hg1 rfl (rowsS_len [_]) (SlN.own 3 rfl rfl) (rowsS_one [_]) (by simp; omega) (by simp; omega))))) ?_
                      refine effStep 7 [] (by kernel_rfl) (closedEx fun n95 => (closedEx fun n103 => (closedEx fun h1 => closedSt))) (hLeft [6] (by kernel_rfl) (.c (fun _ _ ⟨n95, ⟨n103, ⟨h1, hs⟩⟩⟩ => hs.ef.sub (.c 5 rfl .n)) .n)) ?_
                      refine .c ?_ .n
                      refine effOne rfl (opEx fun n95 => (opEx fun n103 => (opEx fun h1 => (gNone rfl (fBuildSlice (.c rfl .n) (fun w => BS46_1_0 w)))))) ?_
                      refine effStep 8 [] (by kernel_rfl) (closedEx fun n95 => (closedEx fun n103 => (closedEx fun h1 => (closedEx fun n99 => closedSt)))) (hLeft [] (by kernel_rfl) .n) ?_
                      refine .c ?_ .n
                      refine effOne rfl (opEx fun n95 => (opEx fun n103 => (opEx fun h1 => (opEx fun n99 => (gNone rfl (fAppend (gs := g2) ([(n99, _), (n103, _), (n95, _), (n1, _), (n4, _), (n2, _), (n8, _), (n9, _), (n10, _)] ++ (osL 45 g3 ++ osL 58 h1.1)) [rowE (x1, x2)] AP46 rfl rfl (.c 0 rfl (.c 0 rfl (.c 0 rfl (.c 0 rfl (.c 0 rfl (.c 0 rfl (.c 0 rfl (.c 0 rfl (.c 0 rfl (by exact (show SubP ((osL 45 g3 ++ osL 58 h1.1) ++ osL 45 g2) ((osL 45 g2 ++ osL 45 g3) ++ osL 58 h1.1) from SubP.rot' _ _ _))))))))))) hg2 rfl (rowsE_len [_]) (SlN.own 2 rfl rfl) (rowsE_one [_]) (by simp; omega) (by simp; omega))))))) ?_
                      refine effStep 12 [] (by kernel_rfl) (closedEx fun n95 => (closedEx fun n103 => (closedEx fun h1 => (closedEx fun n99 => (closedEx fun h2 => closedSt))))) (hLeft [] (by kernel_rfl) .n) ?_
                      refine .c ?_ .n
                      refine effOne rfl (opEx fun n95 => (opEx fun n103 => (opEx fun h1 => (opEx fun n99 => (opEx fun h2 => (gNone rfl (fAppend (gs := g3) ([(n99, _), (n103, _), (n95, _), (n1, _), (n4, _), (n2, _), (n8, _), (n9, _), (n10, _)] ++ (osL 58 h1.1 ++ osL 45 h2.1)) [rowE (c1 + s * x1 / 1000, c2 + s * x2 / 1000)] AP46 rfl rfl (.c 0 rfl (.c 0 rfl (.c 0 rfl (.c 0 rfl (.c 0 rfl (.c 0 rfl (.c 0 rfl (.c 0 rfl (.c 0 rfl (by exact (show SubP ((osL 58 h1.1 ++ osL 45 h2.1) ++ osL 45 g3) ((osL 45 g3 ++ osL 58 h1.1) ++ osL 45 h2.1) from SubP.rot' _ _ _))))))))))) hg3 rfl (rowsE_len [_]) (SlN.own 3 rfl rfl) (rowsE_one [_]) (by simp; omega) (by simp; omega)))))))) ?_
                      refine effStep 14 [] (by kernel_rfl) (closedEx fun n95 => (closedEx fun n103 => (closedEx fun h1 => (closedEx fun n99 => (closedEx fun h2 => (closedEx fun h3 => closedSt)))))) (hLeft [] (by kernel_rfl) .n) ?_
                      refine .c ?_ .n
                      refine effOne rfl (opEx fun n95 => (opEx fun n103 => (opEx fun h1 => (opEx fun n99 => (opEx fun h2 => (opEx fun h3 => (gNone rfl (fStoreL 5 rfl rfl rfl rfl K24 rfl (rfl))))))))) ?_
                      refine effStep 15 [] (by kernel_rfl) (closedEx fun n95 => (closedEx fun n103 => (closedEx fun h1 => (closedEx fun n99 => (closedEx fun h2 => (closedEx fun h3 => closedSt)))))) (hLeft [] (by kernel_rfl) .n) ?_
                      refine .c ?_ .n
                      refine effOne rfl (opEx fun n95 => (opEx fun n103 => (opEx fun h1 => (opEx fun n99 => (opEx fun h2 => (opEx fun h3 => (gNone rfl (fV (yAssign rfl) rfl)))))))) ?_
                      refine effStep 16 [] (by kernel_rfl) (closedEx fun n95 => (closedEx fun n103 => (closedEx fun h1 => (closedEx fun n99 => (closedEx fun h2 => (closedEx fun h3 => closedSt)))))) (hLeft [] (by kernel_rfl) .n) ?_
                      refine .c ?_ .n
                      refine effOne rfl (opEx fun n95 => (opEx fun n103 => (opEx fun h1 => (opEx fun n99 => (opEx fun h2 => (opEx fun h3 => (gNone rfl (fV (yAssign rfl) rfl)))))))) ?_
                      refine effDone (closedEx fun n95 => (closedEx fun n103 => (closedEx fun h1 => (closedEx fun n99 => (closedEx fun h2 => (closedEx fun h3 => closedSt)))))) (hLeft [] (by kernel_rfl) .n) (by kernel_rfl) ?_
                      refine trEx fun n95 => ?_
                      refine trEx fun n103 => ?_
                      refine trEx fun h1 => ?_
                      refine trEx fun n99 => ?_
                      refine trEx fun h2 => ?_
                      refine trEx fun h3 => ?_
                      exact kMeetX ((h1.1, h2.1, h3.1)) (⟨by rw [List.map_append]; exact h1.2, by rw [List.map_append]; exact h2.2, by rw [List.map_append]; exact h3.2⟩) rfl (.c rfl (.c rfl .n)) (.c rfl (.c rfl (.c rfl (.c rfl (.c rfl (.c rfl (.c rfl .n))))))) (.c 3 rfl (.c 3 rfl (.c 3 rfl (.d 0 (.d 0 (.d 0 (.d 0 (.d 0 (.d 0 .r)))))))))
                    · refine effOne rfl (opEx fun n95 => (opEx fun n103 => (gNone rfl (fBuildSlice (.c rfl .n) (fun w => BS46_1_0 w))))) ?_
                      refine effStep 4 [] (by kernel_rfl) (closedEx fun n95 => (closedEx fun n103 => (closedEx fun n99 => closedSt))) (hLeft [1] (by kernel_rfl) (.c (fun _ _ ⟨n95, ⟨n103, ⟨n99, hs⟩⟩⟩ => hs.ef.sub (.c 3 rfl (.c 3 rfl (.c 3 rfl (.c 3 rfl (.c 3 rfl (.c 3 rfl (.d 0 (.d 0 (.d 0 .r)))))))))) .n)) ?_
                      refine .c ?_ .n
                      refine effOne rfl (opEx fun n95 => (opEx fun n103 => (opEx fun n99 => (gNone rfl (fAppend (gs := g1) ([(n99, _), (n103, _), (n95, _), (n1, _), (n4, _), (n2, _), (n8, _), (n9, _), (n10, _)] ++ (osL 45 g2 ++ osL 45 g3)) [rowS sv] AP24 rfl rfl (.c 0 rfl (.c 0 rfl (.c 0 rfl (.c 0 rfl (.c 0 rfl (.c 0 rfl (.c 0 rfl (.c 0 rfl (.c 0 rfl (by exact (show SubP ((osL 45 g2 ++ osL 45 g3) ++ osL 58 g1) ((osL 58 g1 ++ osL 45 g2) ++ osL 45 g3) from SubP.rot' _ _ _))))))))))) hg1 rfl (rowsS_len [_]) (SlN.own 4 rfl rfl) (rowsS_one [_]) (by simp; omega) (by simp; omega)))))) ?_
                      refine effStep 8 [] (by kernel_rfl) (closedEx fun n95 => (closedEx fun n103 => (closedEx fun n99 => (closedEx fun h1 => closedSt)))) (hLeft [] (by kernel_rfl) .n) ?_
                      refine .c ?_ .n
                      refine effOne rfl (opEx fun n95 => (opEx fun n103 => (opEx fun n99 => (opEx fun h1 => (gNone rfl (fAppend (gs := g2) ([(n99, _), (n103, _), (n95, _), (n1, _), (n4, _), (n2, _), (n8, _), (n9, _), (n10, _)] ++ (osL 45 g3 ++ osL 58 h1.1)) [rowE (x1, x2)] AP46 rfl rfl (.c 0 rfl (.c 0 rfl (.c 0 rfl (.c 0 rfl (.c 0 rfl (.c 0 rfl (.c 0 rfl (.c 0 rfl (.c 0 rfl (by exact (show SubP ((osL 45 g3 ++ osL 58 h1.1) ++ osL 45 g2) ((osL 45 g2 ++ osL 45 g3) ++ osL 58 h1.1) from SubP.rot' _ _ _))))))))))) hg2 rfl (rowsE_len [_]) (SlN.own 2 rfl rfl) (rowsE_one [_]) (by simp; omega) (by simp; omega))))))) ?_
                      refine effStep 12 [] (by kernel_rfl) (closedEx fun n95 => (closedEx fun n103 => (closedEx fun n99 => (closedEx fun h1 => (closedEx fun h2 => closedSt))))) (hLeft [] (by kernel_rfl) .n) ?_
                      refine .c ?_ .n
                      refine effOne rfl (opEx fun n95 => (opEx fun n103 => (opEx fun n99 => (opEx fun h1 => (opEx fun h2 => (gNone rfl (fAppend (gs := g3) ([(n99, _), (n103, _), (n95, _), (n1, _), (n4, _), (n2, _), (n8, _), (n9, _), (n10, _)] ++ (osL 58 h1.1 ++ osL 45 h2.1)) [rowE (c1 + s * x1 / 1000, c2 + s * x2 / 1000)] AP46 rfl rfl (.c 0 rfl (.c 0 rfl (.c 0 rfl (.c 0 rfl (.c 0 rfl (.c 0 rfl (.c 0 rfl (.c 0 rfl (.c 0 rfl (by exact (show SubP ((osL 58 h1.1 ++ osL 45 h2.1) ++ osL 45 g3) ((osL 45 g3 ++ osL 58 h1.1) ++ osL 45 h2.1) from SubP.rot' _ _ _))))))))))) hg3 rfl (rowsE_len [_]) (SlN.own 3 rfl rfl) (rowsE_one [_]) (by simp; omega) (by simp; omega)))))))) ?_
                      refine effStep 14 [] (by kernel_rfl) (closedEx fun n95 => (closedEx fun n103 => (closedEx fun n99 => (closedEx fun h1 => (closedEx fun h2 => (closedEx fun h3 => closedSt)))))) (hLeft [] (by kernel_rfl) .n) ?_
                      refine .c ?_ .n
                      refine effOne rfl (opEx fun n95 => (opEx fun n103 => (opEx fun n99 => (opEx fun h1 => (opEx fun h2 => (opEx fun h3 => (gNone rfl (fStoreL 5 rfl rfl rfl rfl K24 rfl (rfl))))))))) ?_
                      refine effStep 15 [] (by kernel_rfl) (closedEx fun n95 => (closedEx fun n103 => (closedEx fun n99 => (closedEx fun h1 => (closedEx fun h2 => (closedEx fun h3 => closedSt)))))) (hLeft [] (by kernel_rfl) .n) ?_
                      refine .c ?_ .n
                      refine effOne rfl (opEx fun n95 => (opEx fun n103 => (opEx fun n99 => (opEx fun h1 => (opEx fun h2 => (opEx fun h3 => (gNone rfl (fV (yAssign rfl) rfl)))))))) ?_
                      refine effStep 16 [] (by kernel_rfl) (closedEx fun n95 => (closedEx fun n103 => (closedEx fun n99 => (closedEx fun h1 => (closedEx fun h2 => (closedEx fun h3 => closedSt)))))) (hLeft [] (by kernel_rfl) .n) ?_
                      refine .c ?_ .n
                      refine effOne rfl (opEx fun n95 => (opEx fun n103 => (opEx fun n99 => (opEx fun h1 => (opEx fun h2 => (opEx fun h3 => (gNone rfl (fV (yAssign rfl) rfl)))))))) ?_
                      refine effDone (closedEx fun n95 => (closedEx fun n103 => (closedEx fun n99 => (closedEx fun h1 => (closedEx fun h2 => (closedEx fun h3 => closedSt)))))) (hLeft [] (by kernel_rfl) .n) (by kernel_rfl) ?_
                      refine trEx fun n95 => ?_
                      refine trEx fun n103 => ?_
                      refine trEx fun n99 => ?_
                      refine trEx fun h1 => ?_
                      refine trEx fun h2 => ?_
                      refine trEx fun h3 => ?_
                      exact kMeetX ((h1.1, h2.1, h3.1)) (⟨by rw [List.map_append]; exact h1.2, by rw [List.map_append]; exact h2.2, by rw [List.map_append]; exact h3.2⟩) rfl (.c rfl (.c rfl .n)) (.c rfl (.c rfl (.c rfl (.c rfl (.c rfl (.c rfl (.c rfl .n))))))) (.c 3 rfl (.c 3 rfl (.c 3 rfl (.d 0 (.d 0 (.d 0 (.d 0 (.d 0 (.d 0 .r)))))))))
                · refine effOne rfl (gNone rfl (fBuildSlice (.c rfl .n) (fun w => BS46_1_0 w))) ?_
                  refine effStep 3 [11] (by kernel_rfl) (closedEx fun n99 => closedSt) (hLeft [1, 2, 10] (by kernel_rfl) (.c (fun _ _ ⟨n99, hs⟩ => hs.ef.sub (.c 1 rfl (.c 1 rfl (.c 1 rfl (.c 1 rfl (.c 1 rfl (.c 1 rfl (.d 0 .r)))))))) (.c (fun _ _ ⟨n99, hs⟩ => hs.ef.sub (.c 1 rfl (.c 1 rfl (.c 1 rfl (.c 1 rfl (.c 1 rfl (.c 1 rfl (.d 0 .r)))))))) (.c (fun _ _ ⟨n99, hs⟩ => hs.ef.sub (.c 5 rfl .n)) .n)))) ?_
                  refine (.c ?_ (.c ?_ .n))
                  · refine effOne rfl (opEx fun n99 => (gNone rfl (fBuildSlice (.c rfl .n) (fun w => BS24_1_0 w)))) ?_
                    refine effStep 4 [11] (by kernel_rfl) (closedEx fun n99 => (closedEx fun n95 => closedSt)) (hLeft [1, 10] (by kernel_rfl) (.c (fun _ _ ⟨n99, ⟨n95, hs⟩⟩ => hs.ef.sub (.c 2 rfl (.c 2 rfl (.c 2 rfl (.c 2 rfl (.c 2 rfl (.c 2 rfl (.d 0 (.d 0 .r))))))))) (.c (fun _ _ ⟨n99, ⟨n95, hs⟩⟩ => hs.ef.sub (.c 6 rfl .n)) .n))) ?_
                    refine (.c ?_ (.c ?_ .n))
                    · refine effOne rfl (opEx fun n99 => (opEx fun n95 => (gNone rfl (fAppend (gs := g1) ([(n95, _), (n99, _), (n1, _), (n4, _), (n2, _), (n8, _), (n9, _), (n10, _)] ++ (osL 45 g2 ++ osL 45 g3)) [rowS sv] AP24 rfl rfl (.c 0 rfl (.c 0 rfl (.c 0 rfl (.c 0 rfl (.c 0 rfl (.c 0 rfl (.c 0 rfl (.c 0 rfl (by exact (show SubP ((osL 45 g2 ++ osL 45 g3) ++ osL 58 g1) ((osL 58 g1 ++ osL 45 g2) ++ osL 45 g3) from SubP.rot' _ _ _)))))))))) hg1 rfl (rowsS_len [_]) (SlN.own 2 rfl rfl) (rowsS_one [_]) (by simp; omega) (by simp; omega))))) ?_
                      refine effStep 8 [11] (by kernel_rfl) (closedEx fun n99 => (closedEx fun n95 => (closedEx fun h1 => closedSt))) (hLeft [10] (by kernel_rfl) (.c (fun _ _ ⟨n99, ⟨n95, ⟨h1, hs⟩⟩⟩ => hs.ef.sub (.c 6 rfl .n)) .n)) ?_
                      refine (.c ?_ (.c ?_ .n))
                      · refine effOne rfl (opEx fun n99 => (opEx fun n95 => (opEx fun h1 => (gNone rfl (fAppend (gs := g2) ([(n95, _), (n99, _), (n1, _), (n4, _), (n2, _), (n8, _), (n9, _), (n10, _)] ++ (osL 45 g3 ++ osL 58 h1.1)) [rowE (x1, x2)] AP46 rfl rfl (.c 0 rfl (.c 0 rfl (.c 0 rfl (.c 0 rfl (.c 0 rfl (.c 0 rfl (.c 0 rfl (.c 0 rfl (by exact (show SubP ((osL 45 g3 ++ osL 58 h1.1) ++ osL 45 g2) ((osL 45 g2 ++ osL 45 g3) ++ osL 58 h1.1) from SubP.rot' _ _ _)))))))))) hg2 rfl (rowsE_len [_]) (SlN.own 3 rfl rfl) (rowsE_one [_]) (by simp; omega) (by simp; omega)))))) ?_
                        refine effStep 11 [] (by kernel_rfl) (closedEx fun n99 => (closedEx fun n95 => (closedEx fun h1 => (closedEx fun h2 => closedSt)))) (hLeft [10] (by kernel_rfl) (.c (fun _ _ ⟨n99, ⟨n95, ⟨h1, ⟨h2, hs⟩⟩⟩⟩ => hs.ef.sub (.c 6 rfl .n)) .n)) ?_
                        refine .c ?_ .n
                        refine effOne rfl (opEx fun n99 => (opEx fun n95 => (opEx fun h1 => (opEx fun h2 => (gNone rfl (fBuildSlice (.c rfl .n) (fun w => BS46_1_0 w))))))) ?_
                        refine effStep 12 [] (by kernel_rfl) (closedEx fun n99 => (closedEx fun n95 => (closedEx fun h1 => (closedEx fun h2 => (closedEx fun n103 => closedSt))))) (hLeft [] (by kernel_rfl) .n) ?_
                        refine .c ?_ .n
                        refine effOne rfl (opEx fun n99 => (opEx fun n95 => (opEx fun h1 => (opEx fun h2 => (opEx fun n103 => (gNone rfl (fAppend (gs := g3) ([(n103, _), (n95, _), (n99, _), (n1, _), (n4, _), (n2, _), (n8, _), (n9, _), (n10, _)] ++ (osL 58 h1.1 ++ osL 45 h2.1)) [rowE (c1 + s * x1 / 1000, c2 + s * x2 / 1000)] AP46 rfl rfl (.c 0 rfl (.c 0 rfl (.c 0 rfl (.c 0 rfl (.c 0 rfl (.c 0 rfl (.c 0 rfl (.c 0 rfl (.c 0 rfl (by exact (show SubP ((osL 58 h1.1 ++ osL 45 h2.1) ++ osL 45 g3) ((osL 45 g3 ++ osL 58 h1.1) ++ osL 45 h2.1) from SubP.rot' _ _ _))))))))))) hg3 rfl (rowsE_len [_]) (SlN.own 2 rfl rfl) (rowsE_one [_]) (by simp; omega) (by simp; omega)))))))) ?_
                        refine effStep 14 [] (by kernel_rfl) (closedEx fun n99 => (closedEx fun n95 => (closedEx fun h1 => (closedEx fun h2 => (closedEx fun n103 => (closedEx fun h3 => closedSt)))))) (hLeft [] (by kernel_rfl) .n) ?_
                        refine .c ?_ .n
                        refine effOne rfl (opEx fun n99 => (opEx fun n95 => (opEx fun h1 => (opEx fun h2 => (opEx fun n103 => (opEx fun h3 => (gNone rfl (fStoreL 5 rfl rfl rfl rfl K24 rfl (rfl))))))))) ?_
                        refine effStep 15 [] (by kernel_rfl) (closedEx fun n99 => (closedEx fun n95 => (closedEx fun h1 => (closedEx fun h2 => (closedEx fun n103 => (closedEx fun h3 => closedSt)))))) (hLeft [] (by kernel_rfl) .n) ?_
                        refine .c ?_ .n
                        refine effOne rfl (opEx fun n99 => (opEx fun n95 => (opEx fun h1 => (opEx fun h2 => (opEx fun n103 => (opEx fun h3 => (gNone rfl (fV (yAssign rfl) rfl)))))))) ?_
                        refine effStep 16 [] (by kernel_rfl) (closedEx fun n99 => (closedEx fun n95 => (closedEx fun h1 => (closedEx fun h2 => (closedEx fun n103 => (closedEx fun h3 => closedSt)))))) (hLeft [] (by kernel_rfl) .n) ?_
                        refine .c ?_ .n
                        refine effOne rfl (opEx fun n99 => (opEx fun n95 => (opEx fun h1 => (opEx fun h2 => (opEx fun n103 => (opEx fun h3 => (gNone rfl (fV (yAssign rfl) rfl)))))))) ?_
                        refine effDone (closedEx fun n99 => (closedEx fun n95 => (closedEx fun h1 => (closedEx fun h2 => (closedEx fun n103 => (closedEx fun h3 => closedSt)))))) (hLeft [] (by kernel_rfl) .n) (by kernel_rfl) ?_
                        refine trEx fun n99 => ?_
                        refine trEx fun n95 => ?_
                        refine trEx fun h1 => ?_
                        refine trEx fun h2 => ?_
                        refine trEx fun n103 => ?_
                        refine trEx fun h3 => ?_
                        exact kMeetX ((h1.1, h2.1, h3.1)) (⟨by rw [List.map_append]; exact h1.2, by rw [List.map_append]; exact h2.2, by rw [List.map_append]; exact h3.2⟩) rfl (.c rfl (.c rfl .n)) (.c rfl (.c rfl (.c rfl (.c rfl (.c rfl (.c rfl (.c rfl .n))))))) (.c 3 rfl (.c 3 rfl (.c 3 rfl (.d 0 (.d 0 (.d 0 (.d 0 (.d 0 (.d 0 .r)))))))))
                      · refine effOne rfl (opEx fun n99 => (opEx fun n95 => (opEx fun h1 => (gNone rfl (fBuildSlice (.c rfl .n) (fun w => BS46_1_0 w)))))) ?_
                        refine effStep 8 [] (by kernel_rfl) (closedEx fun n99 => (closedEx fun n95 => (closedEx fun h1 => (closedEx fun n103 => closedSt)))) (hLeft [] (by kernel_rfl) .n) ?_
                        refine .c ?_ .n
                        refine effOne rfl (opEx fun n99 => (opEx fun n95 => (opEx fun h1 => (opEx fun n103 => (gNone rfl (fAppend (gs := g2) ([(n103, _), (n95, _), (n99, _), (n1, _), (n4, _), (n2, _), (n8, _), (n9, _), (n10, _)] ++ (osL 45 g3 ++ osL 58 h1.1)) [rowE (x1, x2)] AP46 rfl rfl (.c 0 rfl (.c 0 rfl (.c 0 rfl (.c 0 rfl (.c 0 rfl (.c 0 rfl (.c 0 rfl (.c 0 rfl (.c 0 rfl (by exact (show SubP ((osL 45 g3 ++ osL 58 h1.1) ++ osL 45 g2) ((osL 45 g2 ++ osL 45 g3) ++ osL 58 h1.1) from SubP.rot' _ _ _))))))))))) hg2 rfl (rowsE_len [_]) (SlN.own 4 rfl rfl) (rowsE_one [_]) (by simp; omega) (by simp; omega))))))) ?_
                        refine effStep 12 [] (by kernel_rfl) (closedEx fun n99 => (closedEx fun n95 => (closedEx fun h1 => (closedEx fun n103 => (closedEx fun h2 => closedSt))))) (hLeft [] (by kernel_rfl) .n) ?_
                        refine .c ?_ .n
                        refine effOne rfl (opEx fun n99 => (opEx fun n95 => (opEx fun h1 => (opEx fun n103 => (opEx fun h2 => (gNone rfl (fAppend (gs := g3) ([(n103, _), (n95, _), (n99, _), (n1, _), (n4, _), (n2, _), (n8, _), (n9, _), (n10, _)] ++ (osL 58 h1.1 ++ osL 45 h2.1)) [rowE (c1 + s * x1 / 1000, c2 + s * x2 / 1000)] AP46 rfl rfl (.c 0 rfl (.c 0 rfl (.c 0 rfl (.c 0 rfl (.c 0 rfl (.c 0 rfl (.c 0 rfl (.c 0 rfl (.c 0 rfl (by exact (show SubP ((osL 58 h1.1 ++ osL 45 h2.1) ++ osL 45 g3) ((osL 45 g3 ++ osL 58 h1.1) ++ osL 45 h2.1) from SubP.rot' _ _ _))))))))))) hg3 rfl (rowsE_len [_]) (SlN.own 2 rfl rfl) (rowsE_one [_]) (by simp; omega) (by simp; omega)))))))) ?_
                        refine effStep 14 [] (by kernel_rfl) (closedEx fun n99 => (closedEx fun n95 => (closedEx fun h1 => (closedEx fun n103 => (closedEx fun h2 => (closedEx fun h3 => closedSt)))))) (hLeft [] (by kernel_rfl) .n) ?_
                        refine .c ?_ .n
                        refine effOne rfl (opEx fun n99 => (opEx fun n95 => (opEx fun h1 => (opEx fun n103 => (opEx fun h2 => (opEx fun h3 => (gNone rfl (fStoreL 5 rfl rfl rfl rfl K24 rfl (rfl))))))))) ?_
                        refine effStep 15 [] (by kernel_rfl) (closedEx fun n99 => (closedEx fun n95 => (closedEx fun h1 => (closedEx fun n103 => (closedEx fun h2 => (closedEx fun h3 => closedSt)))))) (hLeft [] (by kernel_rfl) .n) ?_
                        refine .c ?_ .n
                        refine effOne rfl (opEx fun n99 => (opEx fun n95 => (opEx fun h1 => (opEx fun n103 => (opEx fun h2 => (opEx fun h3 => (gNone rfl (fV (yAssign rfl) rfl)))))))) ?_
                        refine effStep 16 [] (by kernel_rfl) (closedEx fun n99 => (closedEx fun n95 => (closedEx fun h1 => (closedEx fun n103 => (closedEx fun h2 => (closedEx fun h3 => closedSt)))))) (hLeft [] (by kernel_rfl) .n) ?_
                        refine .c ?_ .n
                        refine effOne rfl (opEx fun n99 => (opEx fun n95 => (opEx fun h1 => (opEx fun n103 => (opEx fun h2 => (opEx fun h3 => (gNone rfl (fV (yAssign rfl) rfl)))))))) ?_
                        refine effDone (closedEx fun n99 => (closedEx fun n95 => (closedEx fun h1 => (closedEx fun n103 => (closedEx fun h2 => (closedEx fun h3 => closedSt)))))) (hLeft [] (by kernel_rfl) .n) (by kernel_rfl) ?_
                        refine trEx fun n99 => ?_
                        refine trEx fun n95 => ?_
                        refine trEx fun h1 => ?_
                        refine trEx fun n103 => ?_
                        refine trEx fun h2 => ?_
                        refine trEx fun h3 => ?_
                        exact kMeetX ((h1.1, h2.1, h3.1)) (⟨by rw [List.map_append]; exact h1.2, by rw [List.map_append]; exact h2.2, by rw [List.map_append]; exact h3.2⟩) rfl (.c rfl (.c rfl .n)) (.c rfl (.c rfl (.c rfl (.c rfl (.c rfl (.c rfl (.c rfl .n))))))) (.c 3 rfl (.c 3 rfl (.c 3 rfl (.d 0 (.d 0 (.d 0 (.d 0 (.d 0 (.d 0 .r)))))))))
                    · refine effOne rfl (opEx fun n99 => (opEx fun n95 => (gNone rfl (fBuildSlice (.c rfl .n) (fun w => BS46_1_0 w))))) ?_
                      refine effStep 4 [] (by kernel_rfl) (closedEx fun n99 => (closedEx fun n95 => (closedEx fun n103 => closedSt))) (hLeft [1] (by kernel_rfl) (.c (fun _ _ ⟨n99, ⟨n95, ⟨n103, hs⟩⟩⟩ => hs.ef.sub (.c 3 rfl (.c 3 rfl (.c 3 rfl (.c 3 rfl (.c 3 rfl (.c 3 rfl (.d 0 (.d 0 (.d 0 .r)))))))))) .n)) ?_
                      refine .c ?_ .n
                      refine effOne rfl (opEx fun n99 => (opEx fun n95 => (opEx fun n103 => (gNone rfl (fAppend (gs := g1) ([(n103, _), (n95, _), (n99, _), (n1, _), (n4, _), (n2, _), (n8, _), (n9, _), (n10, _)] ++ (osL 45 g2 ++ osL 45 g3)) [rowS sv] AP24 rfl rfl (.c 0 rfl (.c 0 rfl (.c 0 rfl (.c 0 rfl (.c 0 rfl (.c 0 rfl (.c 0 rfl (.c 0 rfl (.c 0 rfl (by exact (show SubP ((osL 45 g2 ++ osL 45 g3) ++ osL 58 g1) ((osL 58 g1 ++ osL 45 g2) ++ osL 45 g3) from SubP.rot' _ _ _))))))))))) hg1 rfl (rowsS_len [_]) (SlN.own 3 rfl rfl) (rowsS_one [_]) (by simp; omega) (by simp; omega)))))) ?_
                      refine effStep 8 [] (by kernel_rfl) (closedEx fun n99 => (closedEx fun n95 => (closedEx fun n103 => (closedEx fun h1 => closedSt)))) (hLeft [] (by kernel_rfl) .n) ?_
                      refine .c ?_ .n
                      refine effOne rfl (opEx fun n99 => (opEx fun n95 => (opEx fun n103 => (opEx fun h1 => (gNone rfl (fAppend (gs := g2) ([(n103, _), (n95, _), (n99, _), (n1, _), (n4, _), (n2, _), (n8, _), (n9, _), (n10, _)] ++ (osL 45 g3 ++ osL 58 h1.1)) [rowE (x1, x2)] AP46 rfl rfl (.c 0 rfl (.c 0 rfl (.c 0 rfl (.c 0 rfl (.c 0 rfl (.c 0 rfl (.c 0 rfl (.c 0 rfl (.c 0 rfl (by exact (show SubP ((osL 45 g3 ++ osL 58 h1.1) ++ osL 45 g2) ((osL 45 g2 ++ osL 45 g3) ++ osL 58 h1.1) from SubP.rot' _ _ _))))))))))) hg2 rfl (rowsE_len [_]) (SlN.own 4 rfl rfl) (rowsE_one [_]) (by simp; omega) (by simp; omega))))))) ?_
                      refine effStep 12 [] (by kernel_rfl) (closedEx fun n99 => (closedEx fun n95 => (closedEx fun n103 => (closedEx fun h1 => (closedEx fun h2 => closedSt))))) (hLeft [] (by kernel_rfl) .n) ?_
                      refine .c ?_ .n
                      refine effOne rfl (opEx fun n99 => (opEx fun n95 => (opEx fun n103 => (opEx fun h1 => (opEx fun h2 => (gNone rfl (fAppend (gs := g3) ([(n103, _), (n95, _), (n99, _), (n1, _), (n4, _), (n2, _), (n8, _), (n9, _), (n10, _)] ++ (osL 58 h1.1 ++ osL 45 h2.1)) [rowE (c1 + s * x1 / 1000, c2 + s * x2 / 1000)] AP46 rfl rfl (.c 0 rfl (.c 0 rfl (.c 0 rfl (.c 0 rfl (.c 0 rfl (.c 0 rfl (.c 0 rfl (.c 0 rfl (.c 0 rfl (by exact (show SubP ((osL 58 h1.1 ++ osL 45 h2.1) ++ osL 45 g3) ((osL 45 g3 ++ osL 58 h1.1) ++ osL 45 h2.1) from SubP.rot' _ _ _))))))))))) hg3 rfl (rowsE_len [_]) (SlN.own 2 rfl rfl) (rowsE_one [_]) (by simp; omega) (by simp; omega)))))))) ?_
                      refine effStep 14 [] (by kernel_rfl) (closedEx fun n99 => (closedEx fun n95 => (closedEx fun n103 => (closedEx fun h1 => (closedEx fun h2 => (closedEx fun h3 => closedSt)))))) (hLeft [] (by kernel_rfl) .n) ?_
                      refine .c ?_ .n
                      refine effOne rfl (opEx fun n99 => (opEx fun n95 => (opEx fun n103 => (opEx fun h1 => (opEx fun h2 => (opEx fun h3 => (gNone rfl (fStoreL 5 rfl rfl rfl rfl K24 rfl (rfl))))))))) ?_
                      refine effStep 15 [] (by kernel_rfl) (closedEx fun n99 => (closedEx fun n95 => (closedEx fun n103 => (closedEx fun h1 => (closedEx fun h2 => (closedEx fun h3 => closedSt)))))) (hLeft [] (by kernel_rfl) .n) ?_
                      refine .c ?_ .n
                      refine effOne rfl (opEx fun n99 => (opEx fun n95 => (opEx fun n103 => (opEx fun h1 => (opEx fun h2 => (opEx fun h3 => (gNone rfl (fV (yAssign rfl) rfl)))))))) ?_
                      refine effStep 16 [] (by kernel_rfl) (closedEx fun n99 => (closedEx fun n95 => (closedEx fun n103 => (closedEx fun h1 => (closedEx fun h2 => (closedEx fun h3 => closedSt)))))) (hLeft [] (by kernel_rfl) .n) ?_
                      refine .c ?_ .n
                      refine effOne rfl (opEx fun n99 => (opEx fun n95 => (opEx fun n103 => (opEx fun h1 => (opEx fun h2 => (opEx fun h3 => (gNone rfl (fV (yAssign rfl) rfl)))))))) ?_
                      refine effDone (closedEx fun n99 => (closedEx fun n95 => (closedEx fun n103 => (closedEx fun h1 => (closedEx fun h2 => (closedEx fun h3 => closedSt)))))) (hLeft [] (by kernel_rfl) .n) (by kernel_rfl) ?_
                      refine trEx fun n99 => ?_
                      refine trEx fun n95 => ?_
                      refine trEx fun n103 => ?_
                      refine trEx fun h1 => ?_
                      refine trEx fun h2 => ?_
                      refine trEx fun h3 => ?_
                      exact kMeetX ((h1.1, h2.1, h3.1)) (⟨by rw [List.map_append]; exact h1.2, by rw [List.map_append]; exact h2.2, by rw [List.map_append]; exact h3.2⟩) rfl (.c rfl (.c rfl .n)) (.c rfl (.c rfl (.c rfl (.c rfl (.c rfl (.c rfl (.c rfl .n))))))) (.c 3 rfl (.c 3 rfl (.c 3 rfl (.d 0 (.d 0 (.d 0 (.d 0 (.d 0 (.d 0 .r)))))))))
                  · refine effOne rfl (opEx fun n99 => (gNone rfl (fBuildSlice (.c rfl .n) (fun w => BS46_1_0 w)))) ?_
                    refine effStep 3 [] (by kernel_rfl) (closedEx fun n99 => (closedEx fun n103 => closedSt)) (hLeft [1, 2] (by kernel_rfl) (.c (fun _ _ ⟨n99, ⟨n103, hs⟩⟩ => hs.ef.sub (.c 2 rfl (.c 2 rfl (.c 2 rfl (.c 2 rfl (.c 2 rfl (.c 2 rfl (.d 0 (.d 0 .r))))))))) (.c (fun _ _ ⟨n99, ⟨n103, hs⟩⟩ => hs.ef.sub (.c 2 rfl (.c 2 rfl (.c 2 rfl (.c 2 rfl (.c 2 rfl (.c 2 rfl (.d 0 (.d 0 .r))))))))) .n))) ?_
                    refine .c ?_ .n
                    refine effOne rfl (opEx fun n99 => (opEx fun n103 => (gNone rfl (fBuildSlice (.c rfl .n) (fun w => BS24_1_0 w))))) ?_
                    refine effStep 4 [] (by kernel_rfl) (closedEx fun n99 => (closedEx fun n103 => (closedEx fun n95 => closedSt))) (hLeft [1] (by kernel_rfl) (.c (fun _ _ ⟨n99, ⟨n103, ⟨n95, hs⟩⟩⟩ => hs.ef.sub (.c 3 rfl (.c 3 rfl (.c 3 rfl (.c 3 rfl (.c 3 rfl (.c 3 rfl (.d 0 (.d 0 (.d 0 .r)))))))))) .n)) ?_
                    refine .c ?_ .n
                    refine effOne rfl (opEx fun n99 => (opEx fun n103 => (opEx fun n95 => (gNone rfl (fAppend (gs := g1) ([(n95, _), (n103, _), (n99, _), (n1, _), (n4, _), (n2, _), (n8, _), (n9, _), (n10, _)] ++ (osL 45 g2 ++ osL 45 g3)) [rowS sv] AP24 rfl rfl (.c 0 rfl (.c 0 rfl (.c 0 rfl (.c 0 rfl (.c 0 rfl (.c 0 rfl (.c 0 rfl (.c 0 rfl (.c 0 rfl (by exact (show SubP ((osL 45 g2 ++ osL 45 g3) ++ osL 58 g1) ((osL 58 g1 ++ osL 45 g2) ++ osL 45 g3) from SubP.rot' _ _ _))))))))))) hg1 rfl (rowsS_len [_]) (SlN.own 2 rfl rfl) (rowsS_one [_]) (by simp; omega) (by simp; omega)))))) ?_
                    refine effStep 8 [] (by kernel_rfl) (closedEx fun n99 => (closedEx fun n103 => (closedEx fun n95 => (closedEx fun h1 => closedSt)))) (hLeft [] (by kernel_rfl) .n) ?_
                    refine .c ?_ .n
                    refine effOne rfl (opEx fun n99 => (opEx fun n103 => (opEx fun n95 => (opEx fun h1 => (gNone rfl (fAppend (gs := g2) ([(n95, _), (n103, _), (n99, _), (n1, _), (n4, _), (n2, _), (n8, _), (n9, _), (n10, _)] ++ (osL 45 g3 ++ osL 58 h1.1)) [rowE (x1, x2)] AP46 rfl rfl (.c 0 rfl (.c 0 rfl (.c 0 rfl (.c 0 rfl (.c 0 rfl (.c 0 rfl (.c 0 rfl (.c 0 rfl (.c 0 rfl (by exact (show SubP ((osL 45 g3 ++ osL 58 h1.1) ++ osL 45 g2) ((osL 45 g2 ++ osL 45 g3) ++ osL 58 h1.1) from SubP.rot' _ _ _))))))))))) hg2 rfl (rowsE_len [_]) (SlN.own 4 rfl rfl) (rowsE_one [_]) (by simp; omega) (by simp; omega))))))) ?_
                    refine effStep 12 [] (by kernel_rfl) (closedEx fun n99 => (closedEx fun n103 => (closedEx fun n95 => (closedEx fun h1 => (closedEx fun h2 => closedSt))))) (hLeft [] (by kernel_rfl) .n) ?_
                    refine .c ?_ .n
                    refine effOne rfl (opEx fun n99 => (opEx fun n103 => (opEx fun n95 => (opEx fun h1 => (opEx fun h2 => (gNone rfl (fAppend (gs := g3) ([(n95, _), (n103, _), (n99, _), (n1, _), (n4, _), (n2, _), (n8, _), (n9, _), (n10, _)] ++ (osL 58 h1.1 ++ osL 45 h2.1)) [rowE (c1 + s * x1 / 1000, c2 + s * x2 / 1000)] AP46 rfl rfl (.c 0 rfl (.c 0 rfl (.c 0 rfl (.c 0 rfl (.c 0 rfl (.c 0 rfl (.c 0 rfl (.c 0 rfl (.c 0 rfl (by exact (show SubP ((osL 58 h1.1 ++ osL 45 h2.1) ++ osL 45 g3) ((osL 45 g3 ++ osL 58 h1.1) ++ osL 45 h2.1) from SubP.rot' _ _ _))))))))))) hg3 rfl (rowsE_len [_]) (SlN.own 3 rfl rfl) (rowsE_one [_]) (by simp; omega) (by simp; omega)))))))) ?_
                    refine effStep 14 [] (by kernel_rfl) (closedEx fun n99 => (closedEx fun n103 => (closedEx fun n95 => (closedEx fun h1 => (closedEx fun h2 => (closedEx fun h3 => closedSt)))))) (hLeft [] (by kernel_rfl) .n) ?_
                    refine .c ?_ .n
                    refine effOne rfl (opEx fun n99 => (opEx fun n103 => (opEx fun n95 => (opEx fun h1 => (opEx fun h2 => (opEx fun h3 => (gNone rfl (fStoreL 5 rfl rfl rfl rfl K24 rfl (rfl))))))))) ?_
                    refine effStep 15 [] (by kernel_rfl) (closedEx fun n99 => (closedEx fun n103 => (closedEx fun n95 => (closedEx fun h1 => (closedEx fun h2 => (closedEx fun h3 => closedSt)))))) (hLeft [] (by kernel_rfl) .n) ?_
                    refine .c ?_ .n
                    refine effOne rfl (opEx fun n99 => (opEx fun n103 => (opEx fun n95 => (opEx fun h1 => (opEx fun h2 => (opEx fun h3 => (gNone rfl (fV (yAssign rfl) rfl)))))))) ?_
                    refine effStep 16 [] (by kernel_rfl) (closedEx fun n99 => (closedEx fun n103 => (closedEx fun n95 => (closedEx fun h1 => (closedEx fun h2 => (closedEx fun h3 => closedSt)))))) (hLeft [] (by kernel_rfl) .n) ?_
                    refine .c ?_ .n
                    refine effOne rfl (opEx fun n99 => (opEx fun n103 => (opEx fun n95 => (opEx fun h1 => (opEx fun h2 => (opEx fun h3 => (gNone rfl (fV (yAssign rfl) rfl)))))))) ?_
                    refine effDone (closedEx fun n99 => (closedEx fun n103 => (closedEx fun n95 => (closedEx fun h1 => (closedEx fun h2 => (closedEx fun h3 => closedSt)))))) (hLeft [] (by kernel_rfl) .n) (by kernel_rfl) ?_
                    refine trEx fun n99 => ?_
                    refine trEx fun n103 => ?_
                    refine trEx fun n95 => ?_
                    refine trEx fun h1 => ?_
                    refine trEx fun h2 => ?_
                    refine trEx fun h3 => ?_
                    exact kMeetX ((h1.1, h2.1, h3.1)) (⟨by rw [List.map_append]; exact h1.2, by rw [List.map_append]; exact h2.2, by rw [List.map_append]; exact h3.2⟩) rfl (.c rfl (.c rfl .n)) (.c rfl (.c rfl (.c rfl (.c rfl (.c rfl (.c rfl (.c rfl .n))))))) (.c 3 rfl (.c 3 rfl (.c 3 rfl (.d 0 (.d 0 (.d 0 (.d 0 (.d 0 (.d 0 .r)))))))))
                · refine effOne rfl (gNone rfl (fBuildSlice (.c rfl .n) (fun w => BS46_1_0 w))) ?_
                  refine effStep 3 [7] (by kernel_rfl) (closedEx fun n103 => closedSt) (hLeft [1, 2, 6] (by kernel_rfl) (.c (fun _ _ ⟨n103, hs⟩ => hs.ef.sub (.c 1 rfl (.c 1 rfl (.c 1 rfl (.c 1 rfl (.c 1 rfl (.c 1 rfl (.d 0 .r)))))))) (.c (fun _ _ ⟨n103, hs⟩ => hs.ef.sub (.c 1 rfl (.c 1 rfl (.c 1 rfl (.c 1 rfl (.c 1 rfl (.c 1 rfl (.d 0 .r)))))))) (.c (fun _ _ ⟨n103, hs⟩ => hs.ef.sub (.c 4 rfl .n)) .n)))) ?_
                  refine (.c ?_ (.c ?_ .n))
                  · refine effOne rfl (opEx fun n103 => (gNone rfl (fBuildSlice (.c rfl .n) (fun w => BS24_1_0 w)))) ?_
                    refine effStep 4 [7] (by kernel_rfl) (closedEx fun n103 => (closedEx fun n95 => closedSt)) (hLeft [1, 6] (by kernel_rfl) (.c (fun _ _ ⟨n103, ⟨n95, hs⟩⟩ => hs.ef.sub (.c 2 rfl (.c 2 rfl (.c 2 rfl (.c 2 rfl (.c 2 rfl (.c 2 rfl (.d 0 (.d 0 .r))))))))) (.c (fun _ _ ⟨n103, ⟨n95, hs⟩⟩ => hs.ef.sub (.c 5 rfl .n)) .n))) ?_
                    refine (.c ?_ (.c ?_ .n))
                    · refine effOne rfl (opEx fun n103 => (opEx fun n95 => (gNone rfl (fAppend (gs := g1) ([(n95, _), (n103, _), (n1, _), (n4, _), (n2, _), (n8, _), (n9, _), (n10, _)] ++ (osL 45 g2 ++ osL 45 g3)) [rowS sv] AP24 rfl rfl (.c 0 rfl (.c 0 rfl (.c 0 rfl (.c 0 rfl (.c 0 rfl (.c 0 rfl (.c 0 rfl (.c 0 rfl (by exact (show SubP ((osL 45 g2 ++ osL 45 g3) ++ osL 58 g1) ((osL 58 g1 ++ osL 45 g2) ++ osL 45 g3) from SubP.rot' _ _ _)))))))))) hg1 rfl (rowsS_len [_]) (SlN.own 2 rfl rfl) (rowsS_one [_]) (by simp; omega) (by simp; omega))))) ?_
                      refine effStep 7 [] (by kernel_rfl) (closedEx fun n103 => (closedEx fun n95 => (closedEx fun h1 => closedSt))) (hLeft [6] (by kernel_rfl) (.c (fun _ _ ⟨n103, ⟨n95, ⟨h1, hs⟩⟩⟩ => hs.ef.sub (.c 5 rfl .n)) .n)) ?_
                      refine .c ?_ .n
                      refine effOne rfl (opEx fun n103 => (opEx fun n95 => (opEx fun h1 => (gNone rfl (fBuildSlice (.c rfl .n) (fun w => BS46_1_0 w)))))) ?_
                      refine effStep 8 [] (by kernel_rfl) (closedEx fun n103 => (closedEx fun n95 => (closedEx fun h1 => (closedEx fun n99 => closedSt)))) (hLeft [] (by kernel_rfl) .n) ?_
                      refine .c ?_ .n
                      refine effOne rfl (opEx fun n103 => (opEx fun n95 => (opEx fun h1 => (opEx fun n99 => (gNone rfl (fAppend (gs := g2) ([(n99, _), (n95, _), (n103, _), (n1, _), (n4, _), (n2, _), (n8, _), (n9, _), (n10, _)] ++ (osL 45 g3 ++ osL 58 h1.1)) [rowE (x1, x2)] AP46 rfl rfl (.c 0 rfl (.c 0 rfl (.c 0 rfl (.c 0 rfl (.c 0 rfl (.c 0 rfl (.c 0 rfl (.c 0 rfl (.c 0 rfl (by exact (show SubP ((osL 45 g3 ++ osL 58 h1.1) ++ osL 45 g2) ((osL 45 g2 ++ osL 45 g3) ++ osL 58 h1.1) from SubP.rot' _ _ _))))))))))) hg2 rfl (rowsE_len [_]) (SlN.own 2 rfl rfl) (rowsE_one [_]) (by simp; omega) (by simp; omega))))))) ?_
                      refine effStep 12 [] (by kernel_rfl) (closedEx fun n103 => (closedEx fun n95 => (closedEx fun h1 => (closedEx fun n99 => (closedEx fun h2 => closedSt))))) (hLeft [] (by kernel_rfl) .n) ?_
                      refine .c ?_ .n
                      refine effOne rfl (opEx fun n103 => (opEx fun n95 => (opEx fun h1 => (opEx fun n99 => (opEx fun h2 => (gNone rfl (fAppend (gs := g3) ([(n99, _), (n95, _), (n103, _), (n1, _), (n4, _), (n2, _), (n8, _), (n9, _), (n10, _)] ++ (osL 58 h1.1 ++ osL 45 h2.1)) [rowE (c1 + s * x1 / 1000, c2 + s * x2 / 1000)] AP46 rfl rfl (.c 0 rfl (.c 0 rfl (.c 0 rfl (.c 0 rfl (.c 0 rfl (.c 0 rfl (.c 0 rfl (.c 0 rfl (.c 0 rfl (by exact (show SubP ((osL 58 h1.1 ++ osL 45 h2.1) ++ osL 45 g3) ((osL 45 g3 ++ osL 58 h1.1) ++ osL 45 h2.1) from SubP.rot' _ _ _))))))))))) hg3 rfl (rowsE_len [_]) (SlN.own 4 rfl rfl) (rowsE_one [_]) (by simp; omega) (by simp; omega)))))))) ?_
                      refine effStep 14 [] (by kernel_rfl) (closedEx fun n103 => (closedEx fun n95 => (closedEx fun h1 => (closedEx fun n99 => (closedEx fun h2 => (closedEx fun h3 => closedSt)))))) (hLeft [] (by kernel_rfl) .n) ?_
                      refine .c ?_ .n
                      refine effOne rfl (opEx fun n103 => (opEx fun n95 => (opEx fun h1 => (opEx fun n99 => (opEx fun h2 => (opEx fun h3 => (gNone rfl (fStoreL 5 rfl rfl rfl rfl K24 rfl (rfl))))))))) ?_
                      refine effStep 15 [] (by kernel_rfl) (closedEx fun n103 => (closedEx fun n95 => (closedEx fun h1 => (closedEx fun n99 => (closedEx fun h2 => (closedEx fun h3 => closedSt)))))) (hLeft [] (by kernel_rfl) .n) ?_
                      refine .c ?_ .n
                      refine effOne rfl (opEx fun n103 => (opEx fun n95 => (opEx fun h1 => (opEx fun n99 => (opEx fun h2 => (opEx fun h3 => (gNone rfl (fV (yAssign rfl) rfl)))))))) ?_
                      refine effStep 16 [] (by kernel_rfl) (closedEx fun n103 => (closedEx fun n95 => (closedEx fun h1 => (closedEx fun n99 => (closedEx fun h2 => (closedEx fun h3 => closedSt)))))) (hLeft [] (by kernel_rfl) .n) ?_
                      refine .c ?_ .n
                      refine effOne rfl (opEx fun n103 => (opEx fun n95 => (opEx fun h1 => (opEx fun n99 => (opEx fun h2 => (opEx fun h3 => (gNone rfl (fV (yAssign rfl) rfl)))))))) ?_
                      refine effDone (closedEx fun n103 => (closedEx fun n95 => (closedEx fun h1 => (closedEx fun n99 => (closedEx fun h2 => (closedEx fun h3 => closedSt)))))) (hLeft [] (by kernel_rfl) .n) (by kernel_rfl) ?_
                      refine trEx fun n103 => ?_
                      refine trEx fun n95 => ?_
                      refine trEx fun h1 => ?_
                      refine trEx fun n99 => ?_
                      refine trEx fun h2 => ?_
                      refine trEx fun h3 => ?_
                      exact kMeetX ((h1.1, h2.1, h3.1)) (⟨by rw [List.map_append]; exact h1.2, by rw [List.map_append]; exact h2.2, by rw [List.map_append]; exact h3.2⟩) rfl (.c rfl (.c rfl .n)) (.c rfl (.c rfl (.c rfl (.c rfl (.c rfl (.c rfl (.c rfl .n))))))) (.c 3 rfl (.c 3 rfl (.c 3 rfl (.d 0 (.d 0 (.d 0 (.d 0 (.d 0 (.d 0 .r)))))))))
                    · refine effOne rfl (opEx fun n103 => (opEx fun n95 => (gNone rfl (fBuildSlice (.c rfl .n) (fun w => BS46_1_0 w))))) ?_
                      refine effStep 4 [] (by kernel_rfl) (closedEx fun n103 => (closedEx fun n95 => (closedEx fun n99 => closedSt))) (hLeft [1] (by kernel_rfl) (.c (fun _ _ ⟨n103, ⟨n95, ⟨n99, hs⟩⟩⟩ => hs.ef.sub (.c 3 rfl (.c 3 rfl (.c 3 rfl (.c 3 rfl (.c 3 rfl (.c 3 rfl (.d 0 (.d 0 (.d 0 .r)))))))))) .n)) ?_
                      refine .c ?_ .n
                      refine effOne rfl (opEx fun n103 => (opEx fun n95 => (opEx fun n99 => (gNone rfl (fAppend (gs := g1) ([(n99, _), (n95, _), (n103, _), (n1, _), (n4, _), (n2, _), (n8, _), (n9, _), (n10, _)] ++ (osL 45 g2 ++ osL 45 g3)) [rowS sv] AP24 rfl rfl (.c 0 rfl (.c 0 rfl (.c 0 rfl (.c 0 rfl (.c 0 rfl (.c 0 rfl (.c 0 rfl (.c 0 rfl (.c 0 rfl (by exact (show SubP ((osL 45 g2 ++ osL 45 g3) ++ osL 58 g1) ((osL 58 g1 ++ osL 45 g2) ++ osL 45 g3) from SubP.rot' _ _ _))))))))))) hg1 rfl (rowsS_len [_]) (SlN.own 3 rfl rfl) (rowsS_one [_]) (by simp; omega) (by simp; omega)))))) ?_
                      refine effStep 8 [] (by kernel_rfl) (closedEx fun n103 => (closedEx fun n95 => (closedEx fun n99 => (closedEx fun h1 => closedSt)))) (hLeft [] (by kernel_rfl) .n) ?_
                      refine .c ?_ .n
                      refine effOne rfl (opEx fun n103 => (opEx fun n95 => (opEx fun n99 => (opEx fun h1 => (gNone rfl (fAppend (gs := g2) ([(n99, _), (n95, _), (n103, _), (n1, _), (n4, _), (n2, _), (n8, _), (n9, _), (n10, _)] ++ (osL 45 g3 ++ osL 58 h1.1)) [rowE (x1, x2)] AP46 rfl rfl (.c 0 rfl (.c 0 rfl (.c 0 rfl (.c 0 rfl (.c 0 rfl (.c 0 rfl (.c 0 rfl (.c 0 rfl (.c 0 rfl (by exact (show SubP ((osL 45 g3 ++ osL 58 h1.1) ++ osL 45 g2) ((osL 45 g2 ++ osL 45 g3) ++ osL 58 h1.1) from SubP.rot' _ _ _))))))))))) hg2 rfl (rowsE_len [_]) (SlN.own 2 rfl rfl) (rowsE_one [_]) (by simp; omega) (by simp; omega))))))) ?_
                      refine effStep 12 [] (by kernel_rfl) (closedEx fun n103 => (closedEx fun n95 => (closedEx fun n99 => (closedEx fun h1 => (closedEx fun h2 => closedSt))))) (hLeft [] (by kernel_rfl) .n) ?_
                      refine .c ?_ .n
                      refine effOne rfl (opEx fun n103 => (opEx fun n95 => (opEx fun n99 => (opEx fun h1 => (opEx fun h2 => (gNone rfl (fAppend (gs := g3) ([(n99, _), (n95, _), (n103, _), (n1, _), (n4, _), (n2, _), (n8, _), (n9, _), (n10, _)] ++ (osL 58 h1.1 ++ osL 45 h2.1)) [rowE (c1 + s * x1 / 1000, c2 + s * x2 / 1000)] AP46 rfl rfl (.c 0 rfl (.c 0 rfl (.c 0 rfl (.c 0 rfl (.c 0 rfl (.c 0 rfl (.c 0 rfl (.c 0 rfl (.c 0 rfl (by exact (show SubP ((osL 58 h1.1 ++ osL 45 h2.1) ++ osL 45 g3) ((osL 45 g3 ++ osL 58 h1.1) ++ osL 45 h2.1) from SubP.rot' _ _ _))))))))))) hg3 rfl (rowsE_len [_]) (SlN.own 4 rfl rfl) (rowsE_one [_]) (by simp; omega) (by simp; omega)))))))) ?_
                      refine effStep 14 [] (by kernel_rfl) (closedEx fun n103 => (closedEx fun n95 => (closedEx fun n99 => (closedEx fun h1 => (closedEx fun h2 => (closedEx fun h3 => closedSt)))))) (hLeft [] (by kernel_rfl) .n) ?_
                      refine .c ?_ .n
                      refine effOne rfl (opEx fun n103 => (opEx fun n95 => (opEx fun n99 => (opEx fun h1 => (opEx fun h2 => (opEx fun h3 => (gNone rfl (fStoreL 5 rfl rfl rfl rfl K24 rfl (rfl))))))))) ?_
                      refine effStep 15 [] (by kernel_rfl) (closedEx fun n103 => (closedEx fun n95 => (closedEx fun n99 => (closedEx fun h1 => (closedEx fun h2 => (closedEx fun h3 => closedSt)))))) (hLeft [] (by kernel_rfl) .n) ?_
                      refine .c ?_ .n
                      refine effOne rfl (opEx fun n103 => (opEx fun n95 => (opEx fun n99 => (opEx fun h1 => (opEx fun h2 => (opEx fun h3 => (gNone rfl (fV (yAssign rfl) rfl)))))))) ?_
                      refine effStep 16 [] (by kernel_rfl) (closedEx fun n103 => (closedEx fun n95 => (closedEx fun n99 => (closedEx fun h1 => (closedEx fun h2 => (closedEx fun h3 => closedSt)))))) (hLeft [] (by kernel_rfl) .n) ?_
                      refine .c ?_ .n
                      refine effOne rfl (opEx fun n103 => (opEx fun n95 => (opEx fun n99 => (opEx fun h1 => (opEx fun h2 => (opEx fun h3 => (gNone rfl (fV (yAssign rfl) rfl)))))))) ?_
                      refine effDone (closedEx fun n103 => (closedEx fun n95 => (closedEx fun n99 => (closedEx fun h1 => (closedEx fun h2 => (closedEx fun h3 => closedSt)))))) (hLeft [] (by kernel_rfl) .n) (by kernel_rfl) ?_
                      refine trEx fun n103 => ?_
                      refine trEx fun n95 => ?_
                      refine trEx fun n99 => ?_
                      refine trEx fun h1 => ?_
                      refine trEx fun h2 => ?_
                      refine trEx fun h3 => ?_
                      exact kMeetX ((h1.1, h2.1, h3.1)) (⟨by rw [List.map_append]; exact h1.2, by rw [List.map_append]; exact h2.2, by rw [List.map_append]; exact h3.2⟩) rfl (.c rfl (.c rfl .n)) (.c rfl (.c rfl (.c rfl (.c rfl (.c rfl (.c rfl (.c rfl .n))))))) (.c 3 rfl (.c 3 rfl (.c 3 rfl (.d 0 (.d 0 (.d 0 (.d 0 (.d 0 (.d 0 .r)))))))))
                  · refine effOne rfl (opEx fun n103 => (gNone rfl (fBuildSlice (.c rfl .n) (fun w => BS46_1_0 w)))) ?_
                    refine effStep 3 [] (by kernel_rfl) (closedEx fun n103 => (closedEx fun n99 => closedSt)) (hLeft [1, 2] (by kernel_rfl) (.c (fun _ _ ⟨n103, ⟨n99, hs⟩⟩ => hs.ef.sub (.c 2 rfl (.c 2 rfl (.c 2 rfl (.c 2 rfl (.c 2 rfl (.c 2 rfl (.d 0 (.d 0 .r))))))))) (.c (fun _ _ ⟨n103, ⟨n99, hs⟩⟩ => hs.ef.sub (.c 2 rfl (.c 2 rfl (.c 2 rfl (.c 2 rfl (.c 2 rfl (.c 2 rfl (.d 0 (.d 0 .r))))))))) .n))) ?_
                    refine .c ?_ .n
                    refine effOne rfl (opEx fun n103 => (opEx fun n99 => (gNone rfl (fBuildSlice (.c rfl .n) (fun w => BS24_1_0 w))))) ?_
                    refine effStep 4 [] (by kernel_rfl) (closedEx fun n103 => (closedEx fun n99 => (closedEx fun n95 => closedSt))) (hLeft [1] (by kernel_rfl) (.c (fun _ _ ⟨n103, ⟨n99, ⟨n95, hs⟩⟩⟩ => hs.ef.sub (.c 3 rfl (.c 3 rfl (.c 3 rfl (.c 3 rfl (.c 3 rfl (.c 3 rfl (.d 0 (.d 0 (.d 0 .r)))))))))) .n)) ?_
                    refine .c ?_ .n
                    refine effOne rfl (opEx fun n103 => (opEx fun n99 => (opEx fun n95 => (gNone rfl (fAppend (gs := g1) ([(n95, _), (n99, _), (n103, _), (n1, _), (n4, _), (n2, _), (n8, _), (n9, _), (n10, _)] ++ (osL 45 g2 ++ osL 45 g3)) [rowS sv] AP24 rfl rfl (.c 0 rfl (.c 0 rfl (.c 0 rfl (.c 0 rfl (.c 0 rfl (.c 0 rfl (.c 0 rfl (.c 0 rfl (.c 0 rfl (by exact (show SubP ((osL 45 g2 ++ osL 45 g3) ++ osL 58 g1) ((osL 58 g1 ++ osL 45 g2) ++ osL 45 g3) from SubP.rot' _ _ _))))))))))) hg1 rfl (rowsS_len [_]) (SlN.own 2 rfl rfl) (rowsS_one [_]) (by simp; omega) (by simp; omega)))))) ?_
                    refine effStep 8 [] (by kernel_rfl) (closedEx fun n103 => (closedEx fun n99 => (closedEx fun n95 => (closedEx fun h1 => closedSt)))) (hLeft [] (by kernel_rfl) .n) ?_
                    refine .c ?_ .n
                    refine effOne rfl (opEx fun n103 => (opEx fun n99 => (opEx fun n95 => (opEx fun h1 => (gNone rfl (fAppend (gs := g2) ([(n95, _), (n99, _), (n103, _), (n1, _), (n4, _), (n2, _), (n8, _), (n9, _), (n10, _)] ++ (osL 45 g3 ++ osL 58 h1.1)) [rowE (x1, x2)] AP46 rfl rfl (.c 0 rfl (.c 0 rfl (.c 0 rfl (.c 0 rfl (.c 0 rfl (.c 0 rfl (.c 0 rfl (.c 0 rfl (.c 0 rfl (by exact (show SubP ((osL 45 g3 ++ osL 58 h1.1) ++ osL 45 g2) ((osL 45 g2 ++ osL 45 g3) ++ osL 58 h1.1) from SubP.rot' _ _ _))))))))))) hg2 rfl (rowsE_len [_]) (SlN.own 3 rfl rfl) (rowsE_one [_]) (by simp; omega) (by simp; omega))))))) ?_
                    refine effStep 12 [] (by kernel_rfl) (closedEx fun n103 => (closedEx fun n99 => (closedEx fun n95 => (closedEx fun h1 => (closedEx fun h2 => closedSt))))) (hLeft [] (by kernel_rfl) .n) ?_
                    refine .c ?_ .n
                    refine effOne rfl (opEx fun n103 => (opEx fun n99 => (opEx fun n95 => (opEx fun h1 => (opEx fun h2 => (gNone rfl (fAppend (gs := g3) ([(n95, _), (n99, _), (n103, _), (n1, _), (n4, _), (n2, _), (n8, _), (n9, _), (n10, _)] ++ (osL 58 h1.1 ++ osL 45 h2.1)) [rowE (c1 + s * x1 / 1000, c2 + s * x2 / 1000)] AP46 rfl rfl (.c 0 rfl (.c 0 rfl (.c 0 rfl (.c 0 rfl (.c 0 rfl (.c 0 rfl (.c 0 rfl (.c 0 rfl (.c 0 rfl (by exact (show SubP ((osL 58 h1.1 ++ osL 45 h2.1) ++ osL 45 g3) ((osL 45 g3 ++ osL 58 h1.1) ++ osL 45 h2.1) from SubP.rot' _ _ _))))))))))) hg3 rfl (rowsE_len [_]) (SlN.own 4 rfl rfl) (rowsE_one [_]) (by simp; omega) (by simp; omega)))))))) ?_
                    refine effStep 14 [] (by kernel_rfl) (closedEx fun n103 => (closedEx fun n99 => (closedEx fun n95 => (closedEx fun h1 => (closedEx fun h2 => (closedEx fun h3 => closedSt)))))) (hLeft [] (by kernel_rfl) .n) ?_
                    refine .c ?_ .n
                    refine effOne rfl (opEx fun n103 => (opEx fun n99 => (opEx fun n95 => (opEx fun h1 => (opEx fun h2 => (opEx fun h3 => (gNone rfl (fStoreL 5 rfl rfl rfl rfl K24 rfl (rfl))))))))) ?_
                    refine effStep 15 [] (by kernel_rfl) (closedEx fun n103 => (closedEx fun n99 => (closedEx fun n95 => (closedEx fun h1 => (closedEx fun h2 => (closedEx fun h3 => closedSt)))))) (hLeft [] (by kernel_rfl) .n) ?_
                    refine .c ?_ .n
                    refine effOne rfl (opEx fun n103 => (opEx fun n99 => (opEx fun n95 => (opEx fun h1 => (opEx fun h2 => (opEx fun h3 => (gNone rfl (fV (yAssign rfl) rfl)))))))) ?_
                    refine effStep 16 [] (by kernel_rfl) (closedEx fun n103 => (closedEx fun n99 => (closedEx fun n95 => (closedEx fun h1 => (closedEx fun h2 => (closedEx fun h3 => closedSt)))))) (hLeft [] (by kernel_rfl) .n) ?_
                    refine .c ?_ .n
                    refine effOne rfl (opEx fun n103 => (opEx fun n99 => (opEx fun n95 => (opEx fun h1 => (opEx fun h2 => (opEx fun h3 => (gNone rfl (fV (yAssign rfl) rfl)))))))) ?_
                    refine effDone (closedEx fun n103 => (closedEx fun n99 => (closedEx fun n95 => (closedEx fun h1 => (closedEx fun h2 => (closedEx fun h3 => closedSt)))))) (hLeft [] (by kernel_rfl) .n) (by kernel_rfl) ?_
                    refine trEx fun n103 => ?_
                    refine trEx fun n99 => ?_
                    refine trEx fun n95 => ?_
                    refine trEx fun h1 => ?_
                    refine trEx fun h2 => ?_
                    refine trEx fun h3 => ?_
                    exact kMeetX ((h1.1, h2.1, h3.1)) (⟨by rw [List.map_append]; exact h1.2, by rw [List.map_append]; exact h2.2, by rw [List.map_append]; exact h3.2⟩) rfl (.c rfl (.c rfl .n)) (.c rfl (.c rfl (.c rfl (.c rfl (.c rfl (.c rfl (.c rfl .n))))))) (.c 3 rfl (.c 3 rfl (.c 3 rfl (.d 0 (.d 0 (.d 0 (.d 0 (.d 0 (.d 0 .r)))))))))
              · obtain ⟨h1, h2, h3⟩ := z
                obtain ⟨hh1, hh2, hh3⟩ := hz
                dsimp only at hh1 hh2 hh3 ⊢
                rw [show (st.map rowS ++ [rowS sv]).length = ((st ++ [sv]).map rowS).length from by rw [List.map_append]; rfl, show (im.map rowE ++ [rowE (x1, x2)]).length = ((im ++ [(x1, x2)]).map rowE).length from by rw [List.map_append]; rfl, show (sk.map rowE ++ [rowE (c1 + s * x1 / 1000, c2 + s * x2 / 1000)]).length = ((sk ++ [(c1 + s * x1 / 1000, c2 + s * x2 / 1000)]).map rowE).length from by rw [List.map_append]; rfl]
                have hround : ((i + 1 : Nat) : Int) ≤ dn ∧ k2 ≤ 6 + 11 * (i + 1) ∧ AllT s (c1, c2) (st ++ [sv]) (im ++ [(x1, x2)]) (sk ++ [(c1 + s * x1 / 1000, c2 + s * x2 / 1000)]) (i + 1) ∧ OS 9 h1 ((st ++ [sv]).map rowS) ∧ OS 2 h2 ((im ++ [(x1, x2)]).map rowE) ∧ OS 2 h3 ((sk ++ [(c1 + s * x1 / 1000, c2 + s * x2 / 1000)]).map rowE) := ⟨hdn, by omega, hA.snoc hsv, hh1, hh2, hh3⟩
                refine kInN ?_
                refine kThen ?_
                refine kRegion rfl ?_
                refine lV (yAdd rfl rfl (by omega)) rfl rfl ?_
                refine lV (yMove rfl) rfl rfl ?_
                refine lNil ?_
                exact kRoundX (i + 1, k2, (h1, h2, h3), st ++ [sv], im ++ [(x1, x2)], sk ++ [(c1 + s * x1 / 1000, c2 + s * x2 / 1000)]) (hround) (hmu1) rfl (.c rfl (.c rfl (.c rfl .n))) (.c rfl (.c rfl (.c rfl (.c rfl (.c rfl (.c rfl .n)))))) (.c 0 rfl (.c 0 rfl (.c 0 rfl .r)))
      · refine kIfF rfl ?_
        refine kExit ?_
        refine kThenX ?_
        refine kThenX ?_
        refine kInX ?_
        refine kThen ?_
        refine kSeq ?_
        refine kDrawE [(0, none), (2, some [0, 1])] [] [0, 1, 2, 3, 4] 5 hMix (by kernel_rfl) ?_
        refine .run rfl (yLoadA (vs := [_, _, _]) rfl A26 (cOwn 4 rfl rfl)) rfl rfl ?_
        refine .run rfl (yMove rfl) rfl rfl ?_
        refine .run rfl (yLoadA (vs := [_, _]) rfl A45 (cOwn 3 rfl rfl)) rfl rfl ?_
        refine .run rfl (yMove rfl) rfl rfl ?_
        refine .run rfl (yMove rfl) rfl rfl ?_
        refine .done ?_
        refine effStep 5 [] (by kernel_rfl) closedSt (hLeft [0, 2] (by kernel_rfl) (.c (fun _ _ hs => hs.ef) (.c (fun _ _ hs => hs.ef.sub (.c 0 rfl (.c 0 rfl .n))) .n))) ?_
        refine .c ?_ .n
        refine effOne rfl (gNone rfl (fStoreL 2 rfl rfl rfl rfl K26 rfl (rfl))) ?_
        refine effStep 6 [] (by kernel_rfl) closedSt (hLeft [2] (by kernel_rfl) (.c (fun _ _ hs => hs.ef.sub (.c 0 rfl (.c 0 rfl .n))) .n)) ?_
        refine .c ?_ .n
        refine effOne rfl (gNone rfl (fV (yAssign rfl) rfl)) ?_
        refine effStep 7 [] (by kernel_rfl) closedSt (hLeft [2] (by kernel_rfl) (.c (fun _ _ hs => hs.ef.sub (.c 0 rfl (.c 0 rfl .n))) .n)) ?_
        refine .c ?_ .n
        refine effOne rfl (gNone rfl (fStoreL 1 rfl rfl rfl rfl K45 rfl (rfl))) ?_
        refine effStep 8 [] (by kernel_rfl) closedSt (hLeft [] (by kernel_rfl) .n) ?_
        refine .c ?_ .n
        refine effOne rfl (gNone rfl (fV (yAssign rfl) rfl)) ?_
        refine effStep 9 [] (by kernel_rfl) closedSt (hLeft [] (by kernel_rfl) .n) ?_
        refine .c ?_ .n
        refine effOne rfl (gNone rfl (fV (yAssign rfl) rfl)) ?_
        refine effDone closedSt (hLeft [] (by kernel_rfl) .n) (by kernel_rfl) ?_
        refine kThen ?_
        refine kRet ?_
        refine fRet rfl (.cA (us := [_, _, _]) rfl A26 (cOwn 4 rfl rfl) (.t rfl (.cA (us := [_, _]) rfl A45 (cOwn 3 rfl rfl) (.t rfl (.t rfl .n))))) ?_
        rw [List.length_map]
        have hT := hA.truth (lh := (s - d1, s + d2)) (by omega) (fun d => by cases d <;> simp only [pd, Bool.false_eq_true, if_false, if_true] <;> omega) ⟨by dsimp only; omega, by dsimp only; omega, by dsimp only; omega, by dsimp only; omega⟩
        exact endX (MadeX.mk (s - d1, s + d2) st s (c1, c2) im sk g1 g2 g3 k) ⟨hT.1, hT.2, hg1, hg2, hg3⟩ rfl rfl (.d 0 (.d 0 (.d 0 (by exact SubP.r))))
end Go.Proofs.Ytlcdohhhhlhpmaa
