/-
  Walks: numbers drawn; watches that are truly made.
-/
import Derived.Test.YtiaaidcdoenloaaTg
import Derived.Test.YtiaaidcdoenloaaUc
namespace Go.Proofs.Ytiaaidcdoenloaa
open ZW

abbrev l16C (l : List Nat) (i : Nat) : List Value := [.int .u16 (l.getD i 0 : Nat)]
theorem mne {nb nc b : Nat} {o o' : Obj} (h : nb ≠ b) (k : nc ≠ b) : ∀ p ∈ ([(nb, o), (nc, o')] : Heap), p.1 ≠ b := by
  intro p hp
  simp only [List.mem_cons, List.not_mem_nil, or_false] at hp
  rcases hp with rfl | rfl
  · exact h
  · exact k
/-- Where numbers are drawn from. -/
structure DrawIn (w : World) (nb nc : Nat) (a : Option Addr) (c : Nat) (l : List Nat) : Prop where
  box : w.heap[nc]? = some (blk [.slice a l.length c] 40)
  s : SlE w a l.length 1 (l16C l)
structure DrawOk (nb nc : Nat) (a : Option Addr) (l : List Nat) : Prop where
  ne : nb ≠ nc
  na : nb ≠ sblk a
  nc : nc ≠ sblk a
  pos : 0 < l.length
  q : ∀ x ∈ l, x < 65536
set_option maxRecDepth 100000 in
theorem draw1_any (nb nc : Nat) (a : Option Addr) (c : Nat) (l : List Nat) (k : Nat) (n : Int) (w : World) (hb : w.heap[nb]? = some (blk [i64 (k : Nat)] 3)) (hd : DrawIn w nb nc a c l) (ho : DrawOk nb nc a l) (hk : k < 100000) (hn : 0 < n) :
    Calls Try.prog 64 [i64 n, .pointer (some ⟨nb, 0, none⟩), .pointer (some ⟨nc, 0, none⟩)].toArray w (Wr w nb (blk [i64 ((k + 1 : Nat) : Int)] 3) (i64 (drawI l (k + 1) n))) := by
  have hc := hd.box
  have hpos := ho.pos
  have hm : (k + 1) % l.length < l.length := Nat.mod_lt _ hpos
  have hq := ho.q _ (getD_mem hm 0)
  refine fEnterM (Eff.two hb hc ho.ne) Try.func64 rfl Try.ntmps64 rfl ?_
  refine kSeq ?_
  refine kRegion rfl ?_
  refine lV (yAssign rfl) rfl rfl ?_
  refine lNil ?_
  refine kThen ?_
  refine kSeq ?_
  refine kRegion rfl ?_
  refine lV (yLoad1 rfl O3 (cOwn 0 rfl rfl)) rfl rfl ?_
  refine lV (yAdd rfl rfl (by omega)) rfl rfl ?_
  refine same (t := 6) (u := i64 ((k + 1 : Nat) : Int)) rfl (by congr 1) ?_
  refine lE rfl ?_
  refine eStoreM 0 rfl rfl rfl rfl K3 rfl (rfl) ?_
  refine lNil ?_
  refine kThen ?_
  refine kSeq ?_
  refine kDrawE [(0, none), (1, none), (2, none), (5, none), (6, none), (8, none)] [] [0, 1, 2, 3, 4, 5, 6, 7, 8, 9, 10, 11, 12, 13] 0 hMix (by kernel_rfl) ?_
  refine .run rfl (yLoad1 rfl O40 (cOwn 1 rfl rfl)) rfl rfl ?_
  refine .run rfl (yLoad1 rfl O3 (cOwn 0 rfl rfl)) rfl rfl ?_
  refine .run rfl (yLoad1 rfl O40 (cOwn 1 rfl rfl)) rfl rfl ?_
  refine .run rfl (yLen rfl S40) rfl rfl ?_
  refine .run rfl (yvSame (u := i64 (((k + 1) % l.length : Nat) : Int)) (yRem rfl rfl (by omega) (by omega)) (by congr 1)) rfl rfl ?_
  refine .run rfl (yIndexS  rfl rfl S40 (hd.s.r (mne ho.na ho.nc)) (hm)) rfl rfl ?_
  refine .run rfl (yLoad1 rfl O54 (cSl0 (hd.s.r (mne ho.na ho.nc)) (hm) rfl)) rfl rfl ?_
  refine .run rfl (yConvInt rfl U54 U3 (conv_ok (by omega))) rfl rfl ?_
  refine .run rfl (yLoad1 rfl O3 (cOwn 0 rfl rfl)) rfl rfl ?_
  refine .run rfl (yMul rfl rfl (by omega)) rfl rfl ?_
  refine .run rfl (yvSame (u := i64 ((l.getD ((k + 1) % l.length) 0 + 31 * (k + 1) : Nat) : Int)) (yAdd rfl rfl (by omega)) (by congr 1)) rfl rfl ?_
  refine .run rfl (yMove rfl) rfl rfl ?_
  refine .run rfl (yRem rfl rfl (by omega) (by omega)) rfl rfl ?_
  refine .run rfl (yAssign rfl) rfl rfl ?_
  refine .done ?_
  refine effDone closedSt (hLeft [0, 1, 2, 5, 6, 8] (by kernel_rfl) (.c (fun _ _ hs => hs.ef) (.c (fun _ _ hs => hs.ef) (.c (fun _ _ hs => hs.ef) (.c (fun _ _ hs => hs.ef) (.c (fun _ _ hs => hs.ef) (.c (fun _ _ hs => hs.ef) .n))))))) (by kernel_rfl) ?_
  refine kThen ?_
  refine kRet ?_
  refine fRet rfl (.t rfl .n) ?_
  exact endW2 rfl rfl hc
theorem own_b {sz : Nat} {g : Own} {es : List (List Value)} (h : OS sz g es) (hn : es ≠ []) : ∃ n c l, g = .b n c l := by
  cases g with
  | e a => exact absurd h.at_ hn
  | b n c l => exact ⟨n, c, l, rfl⟩
abbrev rowV (v : Int) : List Value := [i64 v]
structure MadeX where
  X : Wat
  hs : List Int
  ps : List Int
  nE : Nat
  cE : Nat
  vE : List Value
  nH : Nat
  cH : Nat
  vH : List Value
  nP : Nat
  cP : Nat
  vP : List Value
  g : Own
  k : Nat
abbrev madL (x : MadeX) : WLoc := ⟨some ⟨x.nE, 0, none⟩, x.cE, osA x.g, osC x.g⟩
structure MadeOk (x : MadeX) : Prop where
  m : MadeW x.X x.hs x.ps
  e : OS 2 (.b x.nE x.cE x.vE) (x.X.errs.map rowE)
  h : OS 1 (.b x.nH x.cH x.vH) (x.hs.map rowV)
  p : OS 1 (.b x.nP x.cP x.vP) (x.ps.map rowV)
  s : OS 3 x.g (x.X.looks.map rowK)
abbrev madC (g : Own) (n : Nat) : List Value := [osV g n, i64 0, i64 0, i64 0, i64 0, i64 0, i64 0, .slice none 0 0]
set_option maxHeartbeats 8000000 in
set_option maxRecDepth 100000 in
theorem made_any (nb nc : Nat) (a : Option Addr) (c : Nat) (l : List Nat) (w : World) (hb : w.heap[nb]? = some (blk [i64 0] 3)) (hd : DrawIn w nb nc a c l) (ho : DrawOk nb nc a l) :
    Calls Try.prog 29 [.func (.func 64) [].toArray [.pointer (some ⟨nb, 0, none⟩), .pointer (some ⟨nc, 0, none⟩)].toArray].toArray w
      (RetX w MadeOk (fun x => .tuple [.agg (watC (madL x) x.X).toArray, .slice (some ⟨x.nH, 0, none⟩) x.hs.length x.cH, .slice (some ⟨x.nP, 0, none⟩) x.ps.length x.cP].toArray) (fun x => [(nb, blk [i64 (x.k : Nat)] 3), (nc, blk [.slice a l.length c] 40)]) (fun x => [(x.nE, blk x.vE 24), (x.nH, blk x.vH 3), (x.nP, blk x.vP 3)] ++ osL 47 x.g)) := by
  have hc := hd.box
  refine fEnterM (Eff.two hb hc ho.ne) Try.func29 rfl Try.ntmps29 rfl ?_
  refine kSeq ?_
  refine kRegion rfl ?_
  refine lE rfl ?_
  refine eAlloc Z29 fun n2 => ?_
  refine lV (yAssign rfl) rfl rfl ?_
  refine lV (yAssign rfl) rfl rfl ?_
  refine lNil ?_
  refine kThen ?_
  refine kSeq ?_
  refine kSeq ?_
  refine kRegion rfl ?_
  refine lV (yMove rfl) rfl rfl ?_
  refine lNil ?_
  refine kThen ?_
  refine kBlock ?_
  refine kLoopX (ι := Nat × Nat × Own × List (Int × Int) × Nat) (fun x => x.1 ≤ 4 ∧ x.2.1 ≤ 3 * x.1 ∧ x.2.2.2.1.length = x.1 ∧ (∀ e ∈ x.2.2.2.1, -10 ≤ e.1 ∧ e.1 ≤ e.2 ∧ e.2 ≤ 10) ∧ OS 2 x.2.2.1 (x.2.2.2.1.map rowE) ∧ x.2.2.2.2 = (x.2.2.2.1.map rowE).length) (fun x => [(12, i64 (x.1 : Nat))]) [(0, _), (2, _), (3, _), (4, _)] (fun x => [(nb, blk [i64 (x.2.1 : Nat)] 3), (nc, blk [.slice a l.length c] 40)]) (fun x => ([(n2, blk (madC x.2.2.1 x.2.2.2.2) 29)] ++ osL 24 x.2.2.1)) [] (fun x => 4 - x.1) (0, 0, .e none, [], 0) (⟨by dsimp only; omega, by dsimp only; omega, rfl, by simp, OS.empty, rfl⟩) rfl (.c rfl .n) (.c rfl (.c rfl (.c rfl (.c rfl .n)))) (.c 0 rfl .n) ?_
  rintro ⟨i, k, g, es, n⟩ ⟨hi, hk, hes, hel, hg, hn⟩
  dsimp only at hi hk hes hel hg hn ⊢
  subst hn
  refine kSeq ?_
  refine kRegion rfl ?_
  refine lV (yLss rfl rfl) rfl rfl ?_
  refine lNil ?_
  refine kThen ?_
  refine kSeq ?_
  refine split (t := 13) rfl (fun h13 => ?_) (fun h13 => ?_)
  · refine kIfT rfl ?_
    refine kSkip ?_
    refine kThen ?_
    refine kSeq ?_
    refine kBlock ?_
    refine kSeq ?_
    refine kRegion rfl ?_
    refine lV (yMove rfl) rfl rfl ?_
    refine lE rfl ?_
    refine eCallWM 0 rfl rfl (.c rfl .n) C64 (fun w hw hb => draw1_any nb nc a c l k 9 w hb ⟨hw.blkAt 1 rfl, hd.s.eff hw (mne ho.na ho.nc)⟩ ho (by omega) (by omega)) ?_
    obtain ⟨d1, ed1, bd1⟩ : ∃ d, drawI l (k + 1) 9 = d ∧ 0 ≤ d ∧ d < 9 := ⟨_, rfl, draw_bd _ _ (by omega)⟩
    rw [ed1]
    refine lV (ySub rfl rfl (by omega)) rfl rfl ?_
    refine lV (yAssign rfl) rfl rfl ?_
    refine lNil ?_
    refine kThen ?_
    have hb2 := draw_bd l (k + 1 + 1) (n := 4) (by omega)
    have hb3 := draw_bd l (k + 1 + 1 + 1) (n := 4) (by omega)
    refine kDrawE [] [(2, (fun w => w.heap[n2]? = some (blk (madC g (es.map rowE).length) 29)))] [0, 1, 2, 3, 4, 7, 8, 14, 15] 8 hMix (by kernel_rfl) ?_
    refine .run rfl (yFieldAddr rfl F29_0) rfl rfl ?_
    refine .run rfl (yFieldAddr rfl F26_0) rfl rfl ?_
    refine .run rfl (yLoad1 rfl O22 (cHeap rfl)) rfl rfl ?_
    refine .run rfl (yMove rfl) rfl rfl ?_
    refine .run rfl (yMove rfl) rfl rfl ?_
    refine .run rfl (yMove rfl) rfl rfl ?_
    refine .run rfl (yMove rfl) rfl rfl ?_
    refine .run rfl (yFieldAddr rfl F29_0) rfl rfl ?_
    refine .run rfl (yFieldAddr rfl F26_0) rfl rfl ?_
    refine .done ?_
    refine effStep 5 [] (by kernel_rfl) closedSt (hLeft [2] (by kernel_rfl) (.c (fun _ _ hs => by first | exact hs.ef.blkAt 2 rfl | exact hs.ef.blkAt 3 rfl) .n)) ?_
    refine .c ?_ .n
    refine effOne rfl (gNone rfl (eCallWM 0 rfl rfl (.c rfl .n) C64 (fun w hw hb => draw1_any nb nc a c l (k + 1) 4 w hb ⟨hw.blkAt 1 rfl, hd.s.eff hw (mne ho.na ho.nc)⟩ ho (by omega) (by omega)) trSelf)) ?_
    refine effStep 6 [9] (by kernel_rfl) closedSt (hLeft [2] (by kernel_rfl) (.c (fun _ _ hs => by first | exact hs.ef.blkAt 2 rfl | exact hs.ef.blkAt 3 rfl) .n)) ?_
    refine (.c ?_ (.c ?_ .n))
    · refine effOne rfl (gNone rfl (fV (ySub rfl rfl (by omega)) rfl)) ?_
      refine effStep 9 [] (by kernel_rfl) closedSt (hLeft [2] (by kernel_rfl) (.c (fun _ _ hs => by first | exact hs.ef.blkAt 2 rfl | exact hs.ef.blkAt 3 rfl) .n)) ?_
      refine .c ?_ .n
      refine effOne rfl (gNone rfl (eCallWM 0 rfl rfl (.c rfl .n) C64 (fun w hw hb => draw1_any nb nc a c l (k + 1 + 1) 4 w hb ⟨hw.blkAt 1 rfl, hd.s.eff hw (mne ho.na ho.nc)⟩ ho (by omega) (by omega)) trSelf)) ?_
      refine effStep 10 [] (by kernel_rfl) closedSt (hLeft [2] (by kernel_rfl) (.c (fun _ _ hs => by first | exact hs.ef.blkAt 2 rfl | exact hs.ef.blkAt 3 rfl) .n)) ?_
      refine .c ?_ .n
      refine effOne rfl (gNone rfl (fV (yAdd rfl rfl (by omega)) rfl)) ?_
      refine effStep 11 [] (by kernel_rfl) closedSt (hLeft [2] (by kernel_rfl) (.c (fun _ _ hs => by first | exact hs.ef.blkAt 2 rfl | exact hs.ef.blkAt 3 rfl) .n)) ?_
      refine .c ?_ .n
      refine effOne rfl (gNone rfl (fV (yCall rfl (.c rfl (.c rfl .n)) C35 (fun w hw => spanL_any _ _ w)) rfl)) ?_
      refine effStep 12 [] (by kernel_rfl) closedSt (hLeft [2] (by kernel_rfl) (.c (fun _ _ hs => by first | exact hs.ef.blkAt 2 rfl | exact hs.ef.blkAt 3 rfl) .n)) ?_
      refine .c ?_ .n
      refine effOne rfl (gNone rfl (fBuildSlice (.c rfl .n) (fun w => BS22_1_0 w))) ?_
      refine effStep 13 [] (by kernel_rfl) (closedEx fun n29 => closedSt) (hLeft [2] (by kernel_rfl) (.c (fun _ _ ⟨n29, hs⟩ => by first | exact hs.ef.blkAt 2 rfl | exact hs.ef.blkAt 3 rfl) .n)) ?_
      refine .c ?_ .n
      refine effOne rfl (opEx fun n29 => (gNone rfl (fAppend (gs := g) [(n29, _), (n2, _)] [rowE (d1 - 4 - drawI l (k + 1 + 1) 4, d1 - 4 + drawI l (k + 1 + 1 + 1) 4)] AP22 rfl rfl .r hg rfl (rowsE_len [_]) (SlN.own 2 rfl rfl) (rowsE_one [_]) (by simp; omega) (by simp; omega)))) ?_
      refine effStep 16 [] (by kernel_rfl) (closedEx fun n29 => (closedEx fun h => closedSt)) (hLeft [] (by kernel_rfl) .n) ?_
      refine .c ?_ .n
      refine effOne rfl (opEx fun n29 => (opEx fun h => (gNone rfl (fStoreL 1 rfl rfl rfl rfl K22 rfl (rfl))))) ?_
      refine effDone (closedEx fun n29 => (closedEx fun h => closedSt)) (hLeft [] (by kernel_rfl) .n) (by kernel_rfl) ?_
      refine trEx fun n29 => ?_
      refine trEx fun h => ?_
      refine kInN ?_
      refine kThen ?_
      refine kRegion rfl ?_
      refine lV (yAdd rfl rfl (by omega)) rfl rfl ?_
      refine lV (yMove rfl) rfl rfl ?_
      refine lNil ?_
      exact kRoundX (i + 1, k + 1 + 1 + 1, h.1, es ++ [(d1 - 4 - drawI l (k + 1 + 1) 4, d1 - 4 + drawI l (k + 1 + 1 + 1) 4)], (es.map rowE ++ [rowE (d1 - 4 - drawI l (k + 1 + 1) 4, d1 - 4 + drawI l (k + 1 + 1 + 1) 4)]).length) (⟨by dsimp only; omega, by dsimp only; omega, by simp; omega, fun e he => by rcases List.mem_append.1 he with he | he; (· exact hel e he); (simp only [List.mem_singleton] at he; subst he; exact ⟨by dsimp only; omega, by dsimp only; omega, by dsimp only; omega⟩), by dsimp only; rw [List.map_append]; exact h.2, by simp⟩) (by dsimp only; omega) rfl (.c rfl .n) (.c rfl (.c rfl (.c rfl (.c rfl .n)))) (.c 1 rfl (.d 0 .r))
    · refine effOne rfl (gNone rfl (eCallWM 0 rfl rfl (.c rfl .n) C64 (fun w hw hb => draw1_any nb nc a c l (k + 1 + 1) 4 w hb ⟨hw.blkAt 1 rfl, hd.s.eff hw (mne ho.na ho.nc)⟩ ho (by omega) (by omega)) trSelf)) ?_
      refine effStep 6 [10] (by kernel_rfl) closedSt (hLeft [2] (by kernel_rfl) (.c (fun _ _ hs => by first | exact hs.ef.blkAt 2 rfl | exact hs.ef.blkAt 3 rfl) .n)) ?_
      refine (.c ?_ (.c ?_ .n))
      · refine effOne rfl (gNone rfl (fV (ySub rfl rfl (by omega)) rfl)) ?_
        refine effStep 10 [] (by kernel_rfl) closedSt (hLeft [2] (by kernel_rfl) (.c (fun _ _ hs => by first | exact hs.ef.blkAt 2 rfl | exact hs.ef.blkAt 3 rfl) .n)) ?_
        refine .c ?_ .n
        refine effOne rfl (gNone rfl (fV (yAdd rfl rfl (by omega)) rfl)) ?_
        refine effStep 11 [] (by kernel_rfl) closedSt (hLeft [2] (by kernel_rfl) (.c (fun _ _ hs => by first | exact hs.ef.blkAt 2 rfl | exact hs.ef.blkAt 3 rfl) .n)) ?_
        refine .c ?_ .n
        refine effOne rfl (gNone rfl (fV (yCall rfl (.c rfl (.c rfl .n)) C35 (fun w hw => spanL_any _ _ w)) rfl)) ?_
        refine effStep 12 [] (by kernel_rfl) closedSt (hLeft [2] (by kernel_rfl) (.c (fun _ _ hs => by first | exact hs.ef.blkAt 2 rfl | exact hs.ef.blkAt 3 rfl) .n)) ?_
        refine .c ?_ .n
        refine effOne rfl (gNone rfl (fBuildSlice (.c rfl .n) (fun w => BS22_1_0 w))) ?_
        refine effStep 13 [] (by kernel_rfl) (closedEx fun n29 => closedSt) (hLeft [2] (by kernel_rfl) (.c (fun _ _ ⟨n29, hs⟩ => by first | exact hs.ef.blkAt 2 rfl | exact hs.ef.blkAt 3 rfl) .n)) ?_
        refine .c ?_ .n
        refine effOne rfl (opEx fun n29 => (gNone rfl (fAppend (gs := g) [(n29, _), (n2, _)] [rowE (d1 - 4 - drawI l (k + 1 + 1) 4, d1 - 4 + drawI l (k + 1 + 1 + 1) 4)] AP22 rfl rfl .r hg rfl (rowsE_len [_]) (SlN.own 2 rfl rfl) (rowsE_one [_]) (by simp; omega) (by simp; omega)))) ?_
        refine effStep 16 [] (by kernel_rfl) (closedEx fun n29 => (closedEx fun h => closedSt)) (hLeft [] (by kernel_rfl) .n) ?_
        refine .c ?_ .n
        refine effOne rfl (opEx fun n29 => (opEx fun h => (gNone rfl (fStoreL 1 rfl rfl rfl rfl K22 rfl (rfl))))) ?_
        refine effDone (closedEx fun n29 => (closedEx fun h => closedSt)) (hLeft [] (by kernel_rfl) .n) (by kernel_rfl) ?_
        refine trEx fun n29 => ?_
        refine trEx fun h => ?_
        refine kInN ?_
        refine kThen ?_
        refine kRegion rfl ?_
        refine lV (yAdd rfl rfl (by omega)) rfl rfl ?_
        refine lV (yMove rfl) rfl rfl ?_
        refine lNil ?_
        exact kRoundX (i + 1, k + 1 + 1 + 1, h.1, es ++ [(d1 - 4 - drawI l (k + 1 + 1) 4, d1 - 4 + drawI l (k + 1 + 1 + 1) 4)], (es.map rowE ++ [rowE (d1 - 4 - drawI l (k + 1 + 1) 4, d1 - 4 + drawI l (k + 1 + 1 + 1) 4)]).length) (⟨by dsimp only; omega, by dsimp only; omega, by simp; omega, fun e he => by rcases List.mem_append.1 he with he | he; (· exact hel e he); (simp only [List.mem_singleton] at he; subst he; exact ⟨by dsimp only; omega, by dsimp only; omega, by dsimp only; omega⟩), by dsimp only; rw [List.map_append]; exact h.2, by simp⟩) (by dsimp only; omega) rfl (.c rfl .n) (.c rfl (.c rfl (.c rfl (.c rfl .n)))) (.c 1 rfl (.d 0 .r))
      · refine effOne rfl (gNone rfl (fV (yAdd rfl rfl (by omega)) rfl)) ?_
        refine effStep 6 [] (by kernel_rfl) closedSt (hLeft [2] (by kernel_rfl) (.c (fun _ _ hs => by first | exact hs.ef.blkAt 2 rfl | exact hs.ef.blkAt 3 rfl) .n)) ?_
        refine .c ?_ .n
        refine effOne rfl (gNone rfl (fV (ySub rfl rfl (by omega)) rfl)) ?_
        refine effStep 11 [] (by kernel_rfl) closedSt (hLeft [2] (by kernel_rfl) (.c (fun _ _ hs => by first | exact hs.ef.blkAt 2 rfl | exact hs.ef.blkAt 3 rfl) .n)) ?_
        refine .c ?_ .n
        refine effOne rfl (gNone rfl (fV (yCall rfl (.c rfl (.c rfl .n)) C35 (fun w hw => spanL_any _ _ w)) rfl)) ?_
        refine effStep 12 [] (by kernel_rfl) closedSt (hLeft [2] (by kernel_rfl) (.c (fun _ _ hs => by first | exact hs.ef.blkAt 2 rfl | exact hs.ef.blkAt 3 rfl) .n)) ?_
        refine .c ?_ .n
        refine effOne rfl (gNone rfl (fBuildSlice (.c rfl .n) (fun w => BS22_1_0 w))) ?_
        refine effStep 13 [] (by kernel_rfl) (closedEx fun n29 => closedSt) (hLeft [2] (by kernel_rfl) (.c (fun _ _ ⟨n29, hs⟩ => by first | exact hs.ef.blkAt 2 rfl | exact hs.ef.blkAt 3 rfl) .n)) ?_
        refine .c ?_ .n
        refine effOne rfl (opEx fun n29 => (gNone rfl (fAppend (gs := g) [(n29, _), (n2, _)] [rowE (d1 - 4 - drawI l (k + 1 + 1) 4, d1 - 4 + drawI l (k + 1 + 1 + 1) 4)] AP22 rfl rfl .r hg rfl (rowsE_len [_]) (SlN.own 2 rfl rfl) (rowsE_one [_]) (by simp; omega) (by simp; omega)))) ?_
        refine effStep 16 [] (by kernel_rfl) (closedEx fun n29 => (closedEx fun h => closedSt)) (hLeft [] (by kernel_rfl) .n) ?_
        refine .c ?_ .n
        refine effOne rfl (opEx fun n29 => (opEx fun h => (gNone rfl (fStoreL 1 rfl rfl rfl rfl K22 rfl (rfl))))) ?_
        refine effDone (closedEx fun n29 => (closedEx fun h => closedSt)) (hLeft [] (by kernel_rfl) .n) (by kernel_rfl) ?_
        refine trEx fun n29 => ?_
        refine trEx fun h => ?_
        refine kInN ?_
        refine kThen ?_
        refine kRegion rfl ?_
        refine lV (yAdd rfl rfl (by omega)) rfl rfl ?_
        refine lV (yMove rfl) rfl rfl ?_
        refine lNil ?_
        exact kRoundX (i + 1, k + 1 + 1 + 1, h.1, es ++ [(d1 - 4 - drawI l (k + 1 + 1) 4, d1 - 4 + drawI l (k + 1 + 1 + 1) 4)], (es.map rowE ++ [rowE (d1 - 4 - drawI l (k + 1 + 1) 4, d1 - 4 + drawI l (k + 1 + 1 + 1) 4)]).length) (⟨by dsimp only; omega, by dsimp only; omega, by simp; omega, fun e he => by rcases List.mem_append.1 he with he | he; (· exact hel e he); (simp only [List.mem_singleton] at he; subst he; exact ⟨by dsimp only; omega, by dsimp only; omega, by dsimp only; omega⟩), by dsimp only; rw [List.map_append]; exact h.2, by simp⟩) (by dsimp only; omega) rfl (.c rfl .n) (.c rfl (.c rfl (.c rfl (.c rfl .n)))) (.c 1 rfl (.d 0 .r))
  · refine kIfF rfl ?_
    refine kExit ?_
    refine kThenX ?_
    refine kThenX ?_
    refine kInX ?_
    refine kThen ?_
    refine kSeq ?_
    have hlen : es.length = 4 := by omega
    obtain ⟨nE, cE, vE, rfl⟩ := own_b hg (by intro h; have := congrArg List.length h; simp at this; rw [this] at hlen; simp at hlen)
    rw [List.length_map]
    have hk2 : k ≤ 12 := by omega
    refine kRegion rfl ?_
    refine lV (yMove rfl) rfl rfl ?_
    refine lE rfl ?_
    refine eCallWM 0 rfl rfl (.c rfl .n) C64 (fun w hw hb => draw1_any nb nc a c l k 6 w hb ⟨hw.blkAt 1 rfl, hd.s.eff hw (mne ho.na ho.nc)⟩ ho (by omega) (by omega)) ?_
    obtain ⟨d3, ed3, bd3⟩ : ∃ d, drawI l (k + 1) 6 = d ∧ 0 ≤ d ∧ d < 6 := ⟨_, rfl, draw_bd _ _ (by omega)⟩
    rw [ed3]
    refine lV (yNeg rfl (by omega)) rfl rfl ?_
    refine lV (yMove rfl) rfl rfl ?_
    refine lE rfl ?_
    refine eCallWM 0 rfl rfl (.c rfl .n) C64 (fun w hw hb => draw1_any nb nc a c l (k + 1) 6 w hb ⟨hw.blkAt 1 rfl, hd.s.eff hw (mne ho.na ho.nc)⟩ ho (by omega) (by omega)) ?_
    obtain ⟨d4, ed4, bd4⟩ : ∃ d, drawI l (k + 1 + 1) 6 = d ∧ 0 ≤ d ∧ d < 6 := ⟨_, rfl, draw_bd _ _ (by omega)⟩
    rw [ed4]
    refine lV (yCall rfl (.c rfl (.c rfl .n)) C35 (fun w hw => spanL_any _ _ w)) rfl rfl ?_
    refine lV (yFieldAddr rfl F29_0) rfl rfl ?_
    refine lV (yFieldAddr rfl F26_1) rfl rfl ?_
    refine lE rfl ?_
    refine eStoreL 0 rfl rfl rfl rfl K24 rfl (rfl) ?_
    refine lNil ?_
    refine kThen ?_
    refine kSeq ?_
    refine kRegion rfl ?_
    refine lV (yMove rfl) rfl rfl ?_
    refine lE rfl ?_
    refine eCallWM 0 rfl rfl (.c rfl .n) C64 (fun w hw hb => draw1_any nb nc a c l (k + 1 + 1) 4 w hb ⟨hw.blkAt 1 rfl, hd.s.eff hw (mne ho.na ho.nc)⟩ ho (by omega) (by omega)) ?_
    obtain ⟨d5, ed5, bd5⟩ : ∃ d, drawI l (k + 1 + 1 + 1) 4 = d ∧ 0 ≤ d ∧ d < 4 := ⟨_, rfl, draw_bd _ _ (by omega)⟩
    rw [ed5]
    refine lV (yAdd rfl rfl (by omega)) rfl rfl ?_
    refine lV (yMove rfl) rfl rfl ?_
    refine lE rfl ?_
    refine eCallWM 0 rfl rfl (.c rfl .n) C64 (fun w hw hb => draw1_any nb nc a c l (k + 1 + 1 + 1) 4 w hb ⟨hw.blkAt 1 rfl, hd.s.eff hw (mne ho.na ho.nc)⟩ ho (by omega) (by omega)) ?_
    obtain ⟨d6, ed6, bd6⟩ : ∃ d, drawI l (k + 1 + 1 + 1 + 1) 4 = d ∧ 0 ≤ d ∧ d < 4 := ⟨_, rfl, draw_bd _ _ (by omega)⟩
    rw [ed6]
    refine lV (yAdd rfl rfl (by omega)) rfl rfl ?_
    refine lV (yFieldAddr rfl F29_1) rfl rfl ?_
    refine lE rfl ?_
    refine eStoreL 0 rfl rfl rfl rfl K3 rfl (rfl) ?_
    refine lV (yFieldAddr rfl F29_2) rfl rfl ?_
    refine lE rfl ?_
    refine eStoreL 0 rfl rfl rfl rfl K3 rfl (rfl) ?_
    refine lNil ?_
    refine kThen ?_
    refine kSeq ?_
    refine kRegion rfl ?_
    refine lV (yMove rfl) rfl rfl ?_
    refine lE rfl ?_
    refine eCallWM 0 rfl rfl (.c rfl .n) C64 (fun w hw hb => draw1_any nb nc a c l (k + 1 + 1 + 1 + 1) 40 w hb ⟨hw.blkAt 1 rfl, hd.s.eff hw (mne ho.na ho.nc)⟩ ho (by omega) (by omega)) ?_
    obtain ⟨d7, ed7, bd7⟩ : ∃ d, drawI l (k + 1 + 1 + 1 + 1 + 1) 40 = d ∧ 0 ≤ d ∧ d < 40 := ⟨_, rfl, draw_bd _ _ (by omega)⟩
    rw [ed7]
    refine lV (yNeg rfl (by omega)) rfl rfl ?_
    refine lV (yMove rfl) rfl rfl ?_
    refine lE rfl ?_
    refine eCallWM 0 rfl rfl (.c rfl .n) C64 (fun w hw hb => draw1_any nb nc a c l (k + 1 + 1 + 1 + 1 + 1) 40 w hb ⟨hw.blkAt 1 rfl, hd.s.eff hw (mne ho.na ho.nc)⟩ ho (by omega) (by omega)) ?_
    obtain ⟨d8, ed8, bd8⟩ : ∃ d, drawI l (k + 1 + 1 + 1 + 1 + 1 + 1) 40 = d ∧ 0 ≤ d ∧ d < 40 := ⟨_, rfl, draw_bd _ _ (by omega)⟩
    rw [ed8]
    refine lV (yCall rfl (.c rfl (.c rfl .n)) C35 (fun w hw => spanL_any _ _ w)) rfl rfl ?_
    refine lV (yFieldAddr rfl F29_3) rfl rfl ?_
    refine lE rfl ?_
    refine eStoreL 0 rfl rfl rfl rfl K24 rfl (rfl) ?_
    refine lNil ?_
    refine kThen ?_
    refine kSeq ?_
    refine kSeq ?_
    refine kRegion rfl ?_
    refine lV (yFieldAddr rfl F29_2) rfl rfl ?_
    refine lV (yLoad1 rfl O3 (cOwn 2 rfl rfl)) rfl rfl ?_
    refine lV (yMove rfl) rfl rfl ?_
    refine lNil ?_
    refine kThen ?_
    refine kBlock ?_
    refine kLoopX (ι := Nat × Nat × Own × List Int) (fun x => (x.1 : Int) ≤ 1 + d6 ∧ x.2.1 ≤ 18 + 2 * x.1 ∧ x.2.2.2.length = x.1 ∧ (∀ v ∈ x.2.2.2, -d7 ≤ v ∧ v ≤ d8) ∧ OS 1 x.2.2.1 (x.2.2.2.map rowV)) (fun x => [(59, i64 (x.1 : Nat)), (3, osV x.2.2.1 (x.2.2.2.map rowV).length)]) [(0, _), (2, _), (4, _), (12, _), (13, _), (34, _), (35, _), (36, _), (37, _), (38, _), (39, _), (40, _), (41, _), (42, _), (43, _), (44, _), (45, _), (46, _), (47, _), (48, _), (49, _), (50, _), (51, _), (52, _), (53, _), (54, _), (55, _), (56, _), (57, _), (58, _)] (fun x => [(nb, blk [i64 (x.2.1 : Nat)] 3), (nc, blk [.slice a l.length c] 40)]) (fun x => osL 3 x.2.2.1) [(n2, _), (nE, _)] (fun x => (1 + d6).toNat - x.1) (0, k + 1 + 1 + 1 + 1 + 1 + 1, .e none, []) (⟨by dsimp only; omega, by dsimp only; omega, rfl, by simp, OS.empty⟩) rfl (.c rfl (.c rfl .n)) (.c rfl (.c rfl (.c rfl (.c rfl (.c rfl (.c rfl (.c rfl (.c rfl (.c rfl (.c rfl (.c rfl (.c rfl (.c rfl (.c rfl (.c rfl (.c rfl (.c rfl (.c rfl (.c rfl (.c rfl (.c rfl (.c rfl (.c rfl (.c rfl (.c rfl (.c rfl (.c rfl (.c rfl (.c rfl (.c rfl .n)))))))))))))))))))))))))))))) (.c 0 rfl (.c 0 rfl .n)) ?_
    rintro ⟨j, k2, g2, hs⟩ ⟨hj, hk3, hhs, hhb, hg2⟩
    dsimp only at hj hk3 hhs hhb hg2 ⊢
    refine kSeq ?_
    refine kRegion rfl ?_
    refine lV (yLss rfl rfl) rfl rfl ?_
    refine lNil ?_
    refine kThen ?_
    refine kSeq ?_
    refine split (t := 60) rfl (fun h60 => ?_) (fun h60 => ?_)
    · refine kIfT rfl ?_
      refine kSkip ?_
      refine kThen ?_
      refine kSeq ?_
      refine kBlock ?_
      refine kSeq ?_
      refine kRegion rfl ?_
      refine lV (yAssign rfl) rfl rfl ?_
      refine lNil ?_
      refine kThen ?_
      refine kSeq ?_
      refine kSeq ?_
      refine kRegion rfl ?_
      refine lV (yMove rfl) rfl rfl ?_
      refine lE rfl ?_
      refine eCallWM 0 rfl rfl (.c rfl .n) C64 (fun w hw hb => draw1_any nb nc a c l k2 2 w hb ⟨hw.blkAt 1 rfl, hd.s.eff hw (mne ho.na ho.nc)⟩ ho (by omega) (by omega)) ?_
      obtain ⟨d9, ed9, bd9⟩ : ∃ d, drawI l (k2 + 1) 2 = d ∧ 0 ≤ d ∧ d < 2 := ⟨_, rfl, draw_bd _ _ (by omega)⟩
      rw [ed9]
      refine lV (yEql rfl rfl) rfl rfl ?_
      refine lNil ?_
      refine kThen ?_
      refine split (t := 63) rfl (fun h63 => ?_) (fun h63 => ?_)
      · refine kIfT rfl ?_
        have hb10 := draw_bd l (k2 + 1 + 1) (n := d8 - -d7 + 1) (by omega)
        refine kDrawE [(6, none), (9, none)] [(2, (fun w => w.heap[n2]? = some (blk [.slice (some ⟨nE, 0, none⟩) es.length cE, i64 (-d3), i64 d4, i64 (1 + d5), i64 (1 + d6), i64 (-d7), i64 d8, .slice none 0 0] 29)))] [0, 1, 2, 3, 4, 5, 6, 7, 8, 9, 10, 11] 3 hMix (by kernel_rfl) ?_
        refine .run rfl (yFieldAddr rfl F29_3) rfl rfl ?_
        refine .run rfl (yFieldAddr rfl F24_0) rfl rfl ?_
        refine .run rfl (yLoad1 rfl O3 (cHeap rfl)) rfl rfl ?_
        refine .run rfl (yMove rfl) rfl rfl ?_
        refine .run rfl (yFieldAddr rfl F29_3) rfl rfl ?_
        refine .run rfl (yFieldAddr rfl F24_1) rfl rfl ?_
        refine .run rfl (yLoad1 rfl O3 (cOwn 2 rfl rfl)) rfl rfl ?_
        refine .run rfl (yFieldAddr rfl F29_3) rfl rfl ?_
        refine .run rfl (yFieldAddr rfl F24_0) rfl rfl ?_
        refine .run rfl (yLoad1 rfl O3 (cOwn 2 rfl rfl)) rfl rfl ?_
        refine .run rfl (ySub rfl rfl (by omega)) rfl rfl ?_
        refine .run rfl (yAdd rfl rfl (by omega)) rfl rfl ?_
        refine .done ?_
        refine effStep 12 [] (by kernel_rfl) closedSt (hLeft [2, 6, 9] (by kernel_rfl) (.c (fun _ _ hs => by first | exact hs.ef.blkAt 2 rfl | exact hs.ef.blkAt 3 rfl) (.c (fun _ _ hs => hs.ef) (.c (fun _ _ hs => hs.ef) .n)))) ?_
        refine .c ?_ .n
        refine effOne rfl (gNone rfl (eCallWM 0 rfl rfl (.c rfl .n) C64 (fun w hw hb => draw1_any nb nc a c l (k2 + 1) (d8 - -d7 + 1) w hb ⟨hw.blkAt 1 rfl, hd.s.eff hw (mne ho.na ho.nc)⟩ ho (by omega) (by omega)) trSelf)) ?_
        refine effStep 13 [] (by kernel_rfl) closedSt (hLeft [2] (by kernel_rfl) (.c (fun _ _ hs => by first | exact hs.ef.blkAt 2 rfl | exact hs.ef.blkAt 3 rfl) .n)) ?_
        refine .c ?_ .n
        refine effOne rfl (gNone rfl (fV (yAdd rfl rfl (by omega)) rfl)) ?_
        refine effStep 14 [] (by kernel_rfl) closedSt (hLeft [] (by kernel_rfl) .n) ?_
        refine .c ?_ .n
        refine effOne rfl (gNone rfl (fV (yAssign rfl) rfl)) ?_
        refine effDone closedSt (hLeft [] (by kernel_rfl) .n) (by kernel_rfl) ?_
        obtain ⟨d10, ed10⟩ : ∃ d, drawI l (k2 + 1 + 1) (d8 - -d7 + 1) = d := ⟨_, rfl⟩
        rw [ed10] at hb10
        rw [ed10]
        refine kThen ?_
        refine kRegion rfl ?_
        refine lV (yMove rfl) rfl rfl ?_
        refine lV (yMove rfl) rfl rfl ?_
        refine lE rfl ?_
        refine eBuildSlice (.c rfl .n) (fun w => BS41_1_0 w) fun n80 => ?_
        refine lE rfl ?_
        refine eAppend (gs := g2) [(n80, _), (n2, _), (nE, _)] [rowV (-d7 + d10)] AP41 rfl rfl .r hg2 rfl (by simp) (SlN.own 2 rfl rfl) (by simp; rfl) (by simp; omega) (by simp; omega) fun h2 hh2 => ?_
        refine same (t := 81) (u := osV h2 (List.map rowV (hs ++ [-d7 + d10])).length) rfl (by rw [List.map_append]; rfl) ?_
        refine lV (yAssign rfl) rfl rfl ?_
        refine lNil ?_
        refine kInN ?_
        refine kThen ?_
        refine kRegion rfl ?_
        refine lV (yAdd rfl rfl (by omega)) rfl rfl ?_
        refine lV (yMove rfl) rfl rfl ?_
        refine lNil ?_
        exact kRoundX (j + 1, k2 + 1 + 1, h2, hs ++ [-d7 + d10]) (⟨by dsimp only; omega, by dsimp only; omega, by simp; omega, fun e he => by rcases List.mem_append.1 he with he | he; (· exact hhb e he); (simp only [List.mem_singleton] at he; subst he; exact ⟨by omega, by omega⟩), by dsimp only; rw [List.map_append]; exact hh2⟩) (by dsimp only; omega) rfl (.c rfl (.c rfl .n)) (.c rfl (.c rfl (.c rfl (.c rfl (.c rfl (.c rfl (.c rfl (.c rfl (.c rfl (.c rfl (.c rfl (.c rfl (.c rfl (.c rfl (.c rfl (.c rfl (.c rfl (.c rfl (.c rfl (.c rfl (.c rfl (.c rfl (.c rfl (.c rfl (.c rfl (.c rfl (.c rfl (.c rfl (.c rfl (.c rfl .n)))))))))))))))))))))))))))))) (.c 1 rfl (.c 1 rfl (.d 0 .r)))
      · refine kIfF rfl ?_
        refine kSkip ?_
        refine kThen ?_
        refine kRegion rfl ?_
        refine lV (yMove rfl) rfl rfl ?_
        refine lV (yMove rfl) rfl rfl ?_
        refine lE rfl ?_
        refine eBuildSlice (.c rfl .n) (fun w => BS41_1_0 w) fun n80 => ?_
        refine lE rfl ?_
        refine eAppend (gs := g2) [(n80, _), (n2, _), (nE, _)] [rowV 0] AP41 rfl rfl .r hg2 rfl (by simp) (SlN.own 2 rfl rfl) (by simp; rfl) (by simp; omega) (by simp; omega) fun h2 hh2 => ?_
        refine same (t := 81) (u := osV h2 (List.map rowV (hs ++ [0])).length) rfl (by rw [List.map_append]; rfl) ?_
        refine lV (yAssign rfl) rfl rfl ?_
        refine lNil ?_
        refine kInN ?_
        refine kThen ?_
        refine kRegion rfl ?_
        refine lV (yAdd rfl rfl (by omega)) rfl rfl ?_
        refine lV (yMove rfl) rfl rfl ?_
        refine lNil ?_
        exact kRoundX (j + 1, k2 + 1, h2, hs ++ [0]) (⟨by dsimp only; omega, by dsimp only; omega, by simp; omega, fun e he => by rcases List.mem_append.1 he with he | he; (· exact hhb e he); (simp only [List.mem_singleton] at he; subst he; exact ⟨by omega, by omega⟩), by dsimp only; rw [List.map_append]; exact hh2⟩) (by dsimp only; omega) rfl (.c rfl (.c rfl .n)) (.c rfl (.c rfl (.c rfl (.c rfl (.c rfl (.c rfl (.c rfl (.c rfl (.c rfl (.c rfl (.c rfl (.c rfl (.c rfl (.c rfl (.c rfl (.c rfl (.c rfl (.c rfl (.c rfl (.c rfl (.c rfl (.c rfl (.c rfl (.c rfl (.c rfl (.c rfl (.c rfl (.c rfl (.c rfl (.c rfl .n)))))))))))))))))))))))))))))) (.c 1 rfl (.c 1 rfl (.d 0 .r)))
    · refine kIfF rfl ?_
      refine kExit ?_
      refine kThenX ?_
      refine kThenX ?_
      refine kInX ?_
      refine kThen ?_
      refine kSeq ?_
      refine kSeq ?_
      obtain ⟨nH, cH, vH, rfl⟩ := own_b hg2 (by intro h; have := congrArg List.length h; simp at this; rw [this] at hhs; simp at hhs; omega)
      rw [List.length_map]
      have hk4 : k2 ≤ 26 := by omega
      have hhsl : (hs.length : Int) = 1 + d6 := by omega
      refine kRegion rfl ?_
      refine lV (yFieldAddr rfl F29_1) rfl rfl ?_
      refine lV (yLoad1 rfl O3 (cOwn 2 rfl rfl)) rfl rfl ?_
      refine lV (yMove rfl) rfl rfl ?_
      refine lNil ?_
      refine kThen ?_
      refine kBlock ?_
      refine kLoopX (ι := Nat × Nat × Own × List Int) (fun x => (x.1 : Int) ≤ 1 + d5 ∧ x.2.1 ≤ 26 + x.1 ∧ x.2.2.2.length = x.1 ∧ (∀ v ∈ x.2.2.2, 300 ≤ v ∧ v ≤ 3300) ∧ OS 1 x.2.2.1 (x.2.2.2.map rowV)) (fun x => [(85, i64 (x.1 : Nat)), (4, osV x.2.2.1 (x.2.2.2.map rowV).length)]) [(0, _), (2, _), (12, _), (13, _), (34, _), (35, _), (36, _), (37, _), (38, _), (39, _), (40, _), (41, _), (42, _), (43, _), (44, _), (45, _), (46, _), (47, _), (48, _), (49, _), (50, _), (51, _), (52, _), (53, _), (54, _), (55, _), (56, _), (57, _), (58, _), (59, _), (3, _), (60, _), (83, _), (84, _)] (fun x => [(nb, blk [i64 (x.2.1 : Nat)] 3), (nc, blk [.slice a l.length c] 40)]) (fun x => osL 3 x.2.2.1) [(n2, _), (nE, _), (nH, _)] (fun x => (1 + d5).toNat - x.1) (0, k2, .e none, []) (⟨by dsimp only; omega, by dsimp only; omega, rfl, by simp, OS.empty⟩) rfl (.c rfl (.c rfl .n)) (.c rfl (.c rfl (.c rfl (.c rfl (.c rfl (.c rfl (.c rfl (.c rfl (.c rfl (.c rfl (.c rfl (.c rfl (.c rfl (.c rfl (.c rfl (.c rfl (.c rfl (.c rfl (.c rfl (.c rfl (.c rfl (.c rfl (.c rfl (.c rfl (.c rfl (.c rfl (.c rfl (.c rfl (.c rfl (.c rfl (.c rfl (.c rfl (.c rfl (.c rfl .n)))))))))))))))))))))))))))))))))) (.c 0 rfl (.c 0 rfl (.c 0 rfl .n))) ?_
      rintro ⟨j2, k5, g3, ps⟩ ⟨hj2, hk5, hps, hpb, hg3⟩
      dsimp only at hj2 hk5 hps hpb hg3 ⊢
      refine kSeq ?_
      refine kRegion rfl ?_
      refine lV (yLss rfl rfl) rfl rfl ?_
      refine lNil ?_
      refine kThen ?_
      refine kSeq ?_
      refine split (t := 86) rfl (fun h86 => ?_) (fun h86 => ?_)
      · refine kIfT rfl ?_
        refine kSkip ?_
        refine kThen ?_
        refine kSeq ?_
        refine kBlock ?_
        refine kRegion rfl ?_
        refine lV (yMove rfl) rfl rfl ?_
        refine lV (yMove rfl) rfl rfl ?_
        refine lE rfl ?_
        refine eCallWM 0 rfl rfl (.c rfl .n) C64 (fun w hw hb => draw1_any nb nc a c l k5 3000 w hb ⟨hw.blkAt 1 rfl, hd.s.eff hw (mne ho.na ho.nc)⟩ ho (by omega) (by omega)) ?_
        obtain ⟨d11, ed11, bd11⟩ : ∃ d, drawI l (k5 + 1) 3000 = d ∧ 0 ≤ d ∧ d < 3000 := ⟨_, rfl, draw_bd _ _ (by omega)⟩
        rw [ed11]
        refine lV (yAdd rfl rfl (by omega)) rfl rfl ?_
        refine lE rfl ?_
        refine eBuildSlice (.c rfl .n) (fun w => BS41_1_0 w) fun n91 => ?_
        refine lE rfl ?_
        refine eAppend (gs := g3) [(n91, _), (n2, _), (nE, _), (nH, _)] [rowV (300 + d11)] AP41 rfl rfl .r hg3 rfl (by simp) (SlN.own 2 rfl rfl) (by simp; rfl) (by simp; omega) (by simp; omega) fun h3 hh3 => ?_
        refine same (t := 92) (u := osV h3 (List.map rowV (ps ++ [300 + d11])).length) rfl (by rw [List.map_append]; rfl) ?_
        refine lV (yAssign rfl) rfl rfl ?_
        refine lNil ?_
        refine kInN ?_
        refine kThen ?_
        refine kRegion rfl ?_
        refine lV (yAdd rfl rfl (by omega)) rfl rfl ?_
        refine lV (yMove rfl) rfl rfl ?_
        refine lNil ?_
        exact kRoundX (j2 + 1, k5 + 1, h3, ps ++ [300 + d11]) (⟨by dsimp only; omega, by dsimp only; omega, by simp; omega, fun e he => by rcases List.mem_append.1 he with he | he; (· exact hpb e he); (simp only [List.mem_singleton] at he; subst he; exact ⟨by omega, by omega⟩), by dsimp only; rw [List.map_append]; exact hh3⟩) (by dsimp only; omega) rfl (.c rfl (.c rfl .n)) (.c rfl (.c rfl (.c rfl (.c rfl (.c rfl (.c rfl (.c rfl (.c rfl (.c rfl (.c rfl (.c rfl (.c rfl (.c rfl (.c rfl (.c rfl (.c rfl (.c rfl (.c rfl (.c rfl (.c rfl (.c rfl (.c rfl (.c rfl (.c rfl (.c rfl (.c rfl (.c rfl (.c rfl (.c rfl (.c rfl (.c rfl (.c rfl (.c rfl (.c rfl .n)))))))))))))))))))))))))))))))))) (.c 1 rfl (.c 1 rfl (.c 1 rfl (.d 0 .r))))
      · refine kIfF rfl ?_
        refine kExit ?_
        refine kThenX ?_
        refine kThenX ?_
        refine kInX ?_
        refine kThen ?_
        refine kSeq ?_
        refine kSeq ?_
        obtain ⟨nP, cP, vP, rfl⟩ := own_b hg3 (by intro h; have := congrArg List.length h; simp at this; rw [this] at hps; simp at hps; omega)
        rw [List.length_map]
        have hk6 : k5 ≤ 30 := by omega
        have hpsl : (ps.length : Int) = 1 + d5 := by omega
        have hbase : BaseW es (-d3, d4) (1 + d5) (1 + d6) (-d7, d8) hs ps := ⟨hlen, hel, by dsimp only; omega, by omega, by omega, by dsimp only; omega, by omega, by omega, hhb, hpb⟩
        refine kRegion rfl ?_
        refine lV (yMove rfl) rfl rfl ?_
        refine lE rfl ?_
        refine eCallWM 0 rfl rfl (.c rfl .n) C64 (fun w hw hb => draw1_any nb nc a c l k5 13 w hb ⟨hw.blkAt 1 rfl, hd.s.eff hw (mne ho.na ho.nc)⟩ ho (by omega) (by omega)) ?_
        obtain ⟨d12, ed12, bd12⟩ : ∃ d, drawI l (k5 + 1) 13 = d ∧ 0 ≤ d ∧ d < 13 := ⟨_, rfl, draw_bd _ _ (by omega)⟩
        rw [ed12]
        refine lV (yMove rfl) rfl rfl ?_
        refine lNil ?_
        refine kThen ?_
        refine kBlock ?_
        refine kLoopX (ι := Nat × Nat × Own × List (Int × Int × Int)) (fun x => (x.1 : Int) ≤ d12 ∧ x.2.1 ≤ 40 + 62 * x.1 ∧ x.2.2.2.length ≤ x.1 ∧ (∀ s ∈ x.2.2.2, goodW ⟨es, (-d3, d4), 1 + d5, 1 + d6, (-d7, d8), []⟩ hs ps s) ∧ OS 3 x.2.2.1 (x.2.2.2.map rowK)) (fun x => [(96, i64 (x.1 : Nat))]) [(0, _), (2, _), (12, _), (13, _), (34, _), (35, _), (36, _), (37, _), (38, _), (39, _), (40, _), (41, _), (42, _), (43, _), (44, _), (45, _), (46, _), (47, _), (48, _), (49, _), (50, _), (51, _), (52, _), (53, _), (54, _), (55, _), (56, _), (57, _), (58, _), (59, _), (3, _), (60, _), (83, _), (84, _), (85, _), (4, _), (86, _), (94, _), (95, _)] (fun x => [(nb, blk [i64 (x.2.1 : Nat)] 3), (nc, blk [.slice a l.length c] 40)]) (fun x => ([(n2, blk [.slice (some ⟨nE, 0, none⟩) es.length cE, i64 (-d3), i64 d4, i64 (1 + d5), i64 (1 + d6), i64 (-d7), i64 d8, osV x.2.2.1 (x.2.2.2.map rowK).length] 29)] ++ osL 47 x.2.2.1)) [(nE, _), (nH, _), (nP, _)] (fun x => d12.toNat - x.1) (0, k5 + 1, .e none, []) (⟨by dsimp only; omega, by dsimp only; omega, by simp, by simp, OS.empty⟩) rfl (.c rfl .n) (.c rfl (.c rfl (.c rfl (.c rfl (.c rfl (.c rfl (.c rfl (.c rfl (.c rfl (.c rfl (.c rfl (.c rfl (.c rfl (.c rfl (.c rfl (.c rfl (.c rfl (.c rfl (.c rfl (.c rfl (.c rfl (.c rfl (.c rfl (.c rfl (.c rfl (.c rfl (.c rfl (.c rfl (.c rfl (.c rfl (.c rfl (.c rfl (.c rfl (.c rfl (.c rfl (.c rfl (.c rfl (.c rfl (.c rfl .n))))))))))))))))))))))))))))))))))))))) (.c 1 rfl (.c 1 rfl (.c 1 rfl (.c 0 rfl .n)))) ?_
        rintro ⟨i2, k7, g4, ls⟩ ⟨hi2, hk7, hls, hgd, hg4⟩
        dsimp only at hi2 hk7 hls hgd hg4 ⊢
        refine kSeq ?_
        refine kRegion rfl ?_
        refine lV (yLss rfl rfl) rfl rfl ?_
        refine lNil ?_
        refine kThen ?_
        refine kSeq ?_
        refine split (t := 97) rfl (fun h97 => ?_) (fun h97 => ?_)
        · refine kIfT rfl ?_
          refine kSkip ?_
          refine kThen ?_
          refine kSeq ?_
          refine kBlock ?_
          refine kSeq ?_
          refine kCutX (ι := Nat) (fun z => True) (fun z => [(7, .pointer (some ⟨z, 0, none⟩))]) [(0, _), (2, _), (12, _), (13, _), (34, _), (35, _), (36, _), (37, _), (38, _), (39, _), (40, _), (41, _), (42, _), (43, _), (44, _), (45, _), (46, _), (47, _), (48, _), (49, _), (50, _), (51, _), (52, _), (53, _), (54, _), (55, _), (56, _), (57, _), (58, _), (59, _), (3, _), (60, _), (83, _), (84, _), (85, _), (4, _), (86, _), (94, _), (95, _), (96, _), (97, _)] (fun z => [(nb, blk [i64 ((k7 + 1 + 1 : Nat) : Int)] 3), (nc, blk [.slice a l.length c] 40)]) (fun z => ([(z, blk [i64 (drawI l (k7 + 1) (1 + d6)), i64 (drawI l (k7 + 1 + 1) (1 + d5)), i64 0] 47), (n2, blk [.slice (some ⟨nE, 0, none⟩) es.length cE, i64 (-d3), i64 d4, i64 (1 + d5), i64 (1 + d6), i64 (-d7), i64 d8, osV g4 (ls.map rowK).length] 29)] ++ osL 47 g4)) [(nE, _), (nH, _), (nP, _)] (.c rfl (.c rfl (.c rfl (.c rfl (.c rfl (.c rfl (.c rfl (.c rfl (.c rfl (.c rfl (.c rfl (.c rfl (.c rfl (.c rfl (.c rfl (.c rfl (.c rfl (.c rfl (.c rfl (.c rfl (.c rfl (.c rfl (.c rfl (.c rfl (.c rfl (.c rfl (.c rfl (.c rfl (.c rfl (.c rfl (.c rfl (.c rfl (.c rfl (.c rfl (.c rfl (.c rfl (.c rfl (.c rfl (.c rfl (.c rfl (.c rfl .n))))))))))))))))))))))))))))))))))))))))) (.c 0 rfl (.c 0 rfl (.c 0 rfl .n))) ?_ (fun z _ => ?_)
          · refine kDrawE [(2, none)] [(6, (fun w => w.heap[n2]? = some (blk [.slice (some ⟨nE, 0, none⟩) es.length cE, i64 (-d3), i64 d4, i64 (1 + d5), i64 (1 + d6), i64 (-d7), i64 d8, osV g4 (ls.map rowK).length] 29)))] [0, 1, 2, 4, 5, 6] 5 hMix (by kernel_rfl) ?_
            refine .run rfl (yMove rfl) rfl rfl ?_
            refine .run rfl (yFieldAddr rfl F29_2) rfl rfl ?_
            refine .run rfl (yLoad1 rfl O3 (cOwn 5 rfl rfl)) rfl rfl ?_
            refine .run rfl (yMove rfl) rfl rfl ?_
            refine .run rfl (yFieldAddr rfl F29_1) rfl rfl ?_
            refine .run rfl (yLoad1 rfl O3 (cHeap rfl)) rfl rfl ?_
            refine .done ?_
            refine effStep 3 [9] (by kernel_rfl) closedSt (hLeft [2, 6] (by kernel_rfl) (.c (fun _ _ hs => hs.ef) (.c (fun _ _ hs => by first | exact hs.ef.blkAt 5 rfl | exact hs.ef.blkAt 6 rfl) .n))) ?_
            refine (.c ?_ (.c ?_ .n))
            · refine effOne rfl (gNone rfl (eCallWM 0 rfl rfl (.c rfl .n) C64 (fun w hw hb => draw1_any nb nc a c l k7 (1 + d6) w hb ⟨hw.blkAt 1 rfl, hd.s.eff hw (mne ho.na ho.nc)⟩ ho (by omega) (by omega)) trSelf)) ?_
              refine effStep 7 [9] (by kernel_rfl) closedSt (hLeft [6] (by kernel_rfl) (.c (fun _ _ hs => by first | exact hs.ef.blkAt 5 rfl | exact hs.ef.blkAt 6 rfl) .n)) ?_
              refine (.c ?_ (.c ?_ .n))
              · refine effOne rfl (gNone rfl (eCallWM 0 rfl rfl (.c rfl .n) C64 (fun w hw hb => draw1_any nb nc a c l (k7 + 1) (1 + d5) w hb ⟨hw.blkAt 1 rfl, hd.s.eff hw (mne ho.na ho.nc)⟩ ho (by omega) (by omega)) trSelf)) ?_
                refine effStep 8 [9] (by kernel_rfl) closedSt (hLeft [] (by kernel_rfl) .n) ?_
                refine (.c ?_ (.c ?_ .n))
                · refine effOne rfl (gNone rfl (fV (yBuild (.c rfl (.c rfl .n)) (fun w => B47_0_1 w)) rfl)) ?_
                  refine effStep 9 [] (by kernel_rfl) closedSt (hLeft [] (by kernel_rfl) .n) ?_
                  refine .c ?_ .n
                  refine effOne rfl (gNone rfl (fAlloc Z47)) ?_
                  refine effStep 10 [] (by kernel_rfl) (closedEx fun n7 => closedSt) (hLeft [] (by kernel_rfl) .n) ?_
                  refine .c ?_ .n
                  refine effOne rfl (opEx fun n7 => (gNone rfl (fStoreL 0 rfl rfl rfl rfl K47 rfl (rfl)))) ?_
                  refine effDone (closedEx fun n7 => closedSt) (hLeft [] (by kernel_rfl) .n) (by kernel_rfl) ?_
                  refine trEx fun n7 => ?_
                  exact kMeetX (n7) (trivial) rfl (.c rfl .n) (.c rfl (.c rfl (.c rfl (.c rfl (.c rfl (.c rfl (.c rfl (.c rfl (.c rfl (.c rfl (.c rfl (.c rfl (.c rfl (.c rfl (.c rfl (.c rfl (.c rfl (.c rfl (.c rfl (.c rfl (.c rfl (.c rfl (.c rfl (.c rfl (.c rfl (.c rfl (.c rfl (.c rfl (.c rfl (.c rfl (.c rfl (.c rfl (.c rfl (.c rfl (.c rfl (.c rfl (.c rfl (.c rfl (.c rfl (.c rfl (.c rfl .n))))))))))))))))))))))))))))))))))))))))) (.c 1 rfl (.c 1 rfl (.c 1 rfl (.c 0 rfl (.c 0 rfl .r)))))
                · refine effOne rfl (gNone rfl (fAlloc Z47)) ?_
                  refine effStep 8 [] (by kernel_rfl) (closedEx fun n7 => closedSt) (hLeft [] (by kernel_rfl) .n) ?_
                  refine .c ?_ .n
                  refine effOne rfl (opEx fun n7 => (gNone rfl (fV (yBuild (.c rfl (.c rfl .n)) (fun w => B47_0_1 w)) rfl))) ?_
                  refine effStep 10 [] (by kernel_rfl) (closedEx fun n7 => closedSt) (hLeft [] (by kernel_rfl) .n) ?_
                  refine .c ?_ .n
                  refine effOne rfl (opEx fun n7 => (gNone rfl (fStoreL 0 rfl rfl rfl rfl K47 rfl (rfl)))) ?_
                  refine effDone (closedEx fun n7 => closedSt) (hLeft [] (by kernel_rfl) .n) (by kernel_rfl) ?_
                  refine trEx fun n7 => ?_
                  exact kMeetX (n7) (trivial) rfl (.c rfl .n) (.c rfl (.c rfl (.c rfl (.c rfl (.c rfl (.c rfl (.c rfl (.c rfl (.c rfl (.c rfl (.c rfl (.c rfl (.c rfl (.c rfl (.c rfl (.c rfl (.c rfl (.c rfl (.c rfl (.c rfl (.c rfl (.c rfl (.c rfl (.c rfl (.c rfl (.c rfl (.c rfl (.c rfl (.c rfl (.c rfl (.c rfl (.c rfl (.c rfl (.c rfl (.c rfl (.c rfl (.c rfl (.c rfl (.c rfl (.c rfl (.c rfl .n))))))))))))))))))))))))))))))))))))))))) (.c 1 rfl (.c 1 rfl (.c 1 rfl (.c 0 rfl (.c 0 rfl .r)))))
              · refine effOne rfl (gNone rfl (fAlloc Z47)) ?_
                refine effStep 7 [] (by kernel_rfl) (closedEx fun n7 => closedSt) (hLeft [6] (by kernel_rfl) (.c (fun _ _ ⟨n7, hs⟩ => by first | exact hs.ef.blkAt 5 rfl | exact hs.ef.blkAt 6 rfl) .n)) ?_
                refine .c ?_ .n
                refine effOne rfl (opEx fun n7 => (gNone rfl (eCallWM 0 rfl rfl (.c rfl .n) C64 (fun w hw hb => draw1_any nb nc a c l (k7 + 1) (1 + d5) w hb ⟨hw.blkAt 1 rfl, hd.s.eff hw (mne ho.na ho.nc)⟩ ho (by omega) (by omega)) trSelf))) ?_
                refine effStep 8 [] (by kernel_rfl) (closedEx fun n7 => closedSt) (hLeft [] (by kernel_rfl) .n) ?_
                refine .c ?_ .n
                refine effOne rfl (opEx fun n7 => (gNone rfl (fV (yBuild (.c rfl (.c rfl .n)) (fun w => B47_0_1 w)) rfl))) ?_
                refine effStep 10 [] (by kernel_rfl) (closedEx fun n7 => closedSt) (hLeft [] (by kernel_rfl) .n) ?_
                refine .c ?_ .n
                refine effOne rfl (opEx fun n7 => (gNone rfl (fStoreL 0 rfl rfl rfl rfl K47 rfl (rfl)))) ?_
                refine effDone (closedEx fun n7 => closedSt) (hLeft [] (by kernel_rfl) .n) (by kernel_rfl) ?_
                refine trEx fun n7 => ?_
                exact kMeetX (n7) (trivial) rfl (.c rfl .n) (.c rfl (.c rfl (.c rfl (.c rfl (.c rfl (.c rfl (.c rfl (.c rfl (.c rfl (.c rfl (.c rfl (.c rfl (.c rfl (.c rfl (.c rfl (.c rfl (.c rfl (.c rfl (.c rfl (.c rfl (.c rfl (.c rfl (.c rfl (.c rfl (.c rfl (.c rfl (.c rfl (.c rfl (.c rfl (.c rfl (.c rfl (.c rfl (.c rfl (.c rfl (.c rfl (.c rfl (.c rfl (.c rfl (.c rfl (.c rfl (.c rfl .n))))))))))))))))))))))))))))))))))))))))) (.c 1 rfl (.c 1 rfl (.c 1 rfl (.c 0 rfl (.c 0 rfl .r)))))
            · refine effOne rfl (gNone rfl (fAlloc Z47)) ?_
              refine effStep 3 [] (by kernel_rfl) (closedEx fun n7 => closedSt) (hLeft [2, 6] (by kernel_rfl) (.c (fun _ _ ⟨n7, hs⟩ => hs.ef.sub (.c 1 rfl (.c 1 rfl (.c 1 rfl (.c 1 rfl (.d 0 .r)))))) (.c (fun _ _ ⟨n7, hs⟩ => by first | exact hs.ef.blkAt 5 rfl | exact hs.ef.blkAt 6 rfl) .n))) ?_
              refine .c ?_ .n
              refine effOne rfl (opEx fun n7 => (gNone rfl (eCallWM 0 rfl rfl (.c rfl .n) C64 (fun w hw hb => draw1_any nb nc a c l k7 (1 + d6) w hb ⟨hw.blkAt 1 rfl, hd.s.eff hw (mne ho.na ho.nc)⟩ ho (by omega) (by omega)) trSelf))) ?_
              refine effStep 7 [] (by kernel_rfl) (closedEx fun n7 => closedSt) (hLeft [6] (by kernel_rfl) (.c (fun _ _ ⟨n7, hs⟩ => by first | exact hs.ef.blkAt 5 rfl | exact hs.ef.blkAt 6 rfl) .n)) ?_
              refine .c ?_ .n
              refine effOne rfl (opEx fun n7 => (gNone rfl (eCallWM 0 rfl rfl (.c rfl .n) C64 (fun w hw hb => draw1_any nb nc a c l (k7 + 1) (1 + d5) w hb ⟨hw.blkAt 1 rfl, hd.s.eff hw (mne ho.na ho.nc)⟩ ho (by omega) (by omega)) trSelf))) ?_
              refine effStep 8 [] (by kernel_rfl) (closedEx fun n7 => closedSt) (hLeft [] (by kernel_rfl) .n) ?_
              refine .c ?_ .n
              refine effOne rfl (opEx fun n7 => (gNone rfl (fV (yBuild (.c rfl (.c rfl .n)) (fun w => B47_0_1 w)) rfl))) ?_
              refine effStep 10 [] (by kernel_rfl) (closedEx fun n7 => closedSt) (hLeft [] (by kernel_rfl) .n) ?_
              refine .c ?_ .n
              refine effOne rfl (opEx fun n7 => (gNone rfl (fStoreL 0 rfl rfl rfl rfl K47 rfl (rfl)))) ?_
              refine effDone (closedEx fun n7 => closedSt) (hLeft [] (by kernel_rfl) .n) (by kernel_rfl) ?_
              refine trEx fun n7 => ?_
              exact kMeetX (n7) (trivial) rfl (.c rfl .n) (.c rfl (.c rfl (.c rfl (.c rfl (.c rfl (.c rfl (.c rfl (.c rfl (.c rfl (.c rfl (.c rfl (.c rfl (.c rfl (.c rfl (.c rfl (.c rfl (.c rfl (.c rfl (.c rfl (.c rfl (.c rfl (.c rfl (.c rfl (.c rfl (.c rfl (.c rfl (.c rfl (.c rfl (.c rfl (.c rfl (.c rfl (.c rfl (.c rfl (.c rfl (.c rfl (.c rfl (.c rfl (.c rfl (.c rfl (.c rfl (.c rfl .n))))))))))))))))))))))))))))))))))))))))) (.c 1 rfl (.c 1 rfl (.c 1 rfl (.c 0 rfl (.c 0 rfl .r)))))
          · obtain ⟨n7, rfl⟩ : ∃ n, n = z := ⟨z, rfl⟩
            obtain ⟨d13, ed13, bd13⟩ : ∃ d, drawI l (k7 + 1) (1 + d6) = d ∧ 0 ≤ d ∧ d < (1 + d6) := ⟨_, rfl, draw_bd _ _ (by omega)⟩
            obtain ⟨d14, ed14, bd14⟩ : ∃ d, drawI l (k7 + 1 + 1) (1 + d5) = d ∧ 0 ≤ d ∧ d < (1 + d5) := ⟨_, rfl, draw_bd _ _ (by omega)⟩
            rw [ed13, ed14]
            refine kSeq ?_
            have hpl := hpb _ (getD_mem (l := ps) (i := d14.toNat) (by omega) 0)
            have hhl := hhb _ (getD_mem (l := hs) (i := d13.toNat) (by omega) 0)
            refine kDrawE [(2, none), (3, none), (4, none), (7, none), (8, none), (9, none)] [] [0, 1, 2, 3, 4, 5, 6, 7, 8, 9, 10, 11] 0 hMix (by kernel_rfl) ?_
            refine .run rfl (yMove rfl) rfl rfl ?_
            refine .run rfl (yFieldAddr rfl F47_1) rfl rfl ?_
            refine .run rfl (yvSame (u := i64 ((d14.toNat : Nat) : Int)) (yLoad1 rfl O3 (cOwn 5 rfl rfl)) (by congr 1; omega)) rfl rfl ?_
            refine .run rfl (yIndexS  rfl rfl S41 (fun w hw => OS.rowsE (f := rowV) 0 hg3 hw (.c 2 rfl .n)) (by omega)) rfl rfl ?_
            refine .run rfl (yLoad1 rfl O3 (cSl0 (fun w hw => OS.rowsE (f := rowV) 0 hg3 hw (.c 2 rfl .n)) (by omega) rfl)) rfl rfl ?_
            refine .run rfl (yMove rfl) rfl rfl ?_
            refine .run rfl (yFieldAddr rfl F47_0) rfl rfl ?_
            refine .run rfl (yvSame (u := i64 ((d13.toNat : Nat) : Int)) (yLoad1 rfl O3 (cOwn 5 rfl rfl)) (by congr 1; omega)) rfl rfl ?_
            refine .run rfl (yIndexS  rfl rfl S41 (fun w hw => OS.rowsE (f := rowV) 0 hg2 hw (.c 1 rfl .n)) (by omega)) rfl rfl ?_
            refine .run rfl (yLoad1 rfl O3 (cSl0 (fun w hw => OS.rowsE (f := rowV) 0 hg2 hw (.c 1 rfl .n)) (by omega) rfl)) rfl rfl ?_
            refine .run rfl (ySub rfl rfl (by omega)) rfl rfl ?_
            refine .run rfl (yAssign rfl) rfl rfl ?_
            refine .done ?_
            refine effDone closedSt (hLeft [2, 3, 4, 7, 8, 9] (by kernel_rfl) (.c (fun _ _ hs => hs.ef) (.c (fun _ _ hs => hs.ef) (.c (fun _ _ hs => hs.ef) (.c (fun _ _ hs => hs.ef) (.c (fun _ _ hs => hs.ef) (.c (fun _ _ hs => hs.ef) .n))))))) (by kernel_rfl) ?_
            obtain ⟨t, ht⟩ : ∃ v : Int, ps.getD d14.toNat 0 - hs.getD d13.toNat 0 = v := ⟨_, rfl⟩
            rw [ht]
            have htb : 260 ≤ t ∧ t ≤ 3340 := by omega
            refine kThen ?_
            refine kSeq ?_
            refine kRegion rfl ?_
            refine lV (yMove rfl) rfl rfl ?_
            refine lV (yFieldAddr rfl F47_2) rfl rfl ?_
            refine lE rfl ?_
            refine eStoreL 3 rfl rfl rfl rfl K3 rfl (rfl) ?_
            refine lNil ?_
            refine kThen ?_
            refine kSeq ?_
            refine kRegion rfl ?_
            refine lV (yMove rfl) rfl rfl ?_
            refine lNil ?_
            refine kThen ?_
            refine kBlock ?_
            refine kLoopX (ι := Nat × Nat × Int) (fun x => x.1 ≤ 60 ∧ x.2.1 ≤ 40 + 62 * i2 + 2 + x.1 ∧ 200 ≤ x.2.2 ∧ x.2.2 ≤ 3400) (fun x => [(120, i64 (x.1 : Nat))]) [(0, _), (2, _), (12, _), (13, _), (34, _), (35, _), (36, _), (37, _), (38, _), (39, _), (40, _), (41, _), (42, _), (43, _), (44, _), (45, _), (46, _), (47, _), (48, _), (49, _), (50, _), (51, _), (52, _), (53, _), (54, _), (55, _), (56, _), (57, _), (58, _), (59, _), (3, _), (60, _), (83, _), (84, _), (85, _), (4, _), (86, _), (94, _), (95, _), (96, _), (97, _), (7, _), (107, _), (108, _), (109, _), (110, _), (111, _), (112, _), (113, _), (114, _), (115, _), (116, _), (117, _), (8, _), (118, _), (119, _)] (fun x => [(nb, blk [i64 (x.2.1 : Nat)] 3), (nc, blk [.slice a l.length c] 40)]) (fun x => ([(n7, blk [i64 d13, i64 d14, i64 x.2.2] 47)] ++ osL 47 g4)) [(nE, _), (nH, _), (nP, _), (n2, _)] (fun x => 60 - x.1) (0, k7 + 1 + 1, t) (⟨by dsimp only; omega, by dsimp only; omega, by dsimp only; omega, by dsimp only; omega⟩) rfl (.c rfl .n) (.c rfl (.c rfl (.c rfl (.c rfl (.c rfl (.c rfl (.c rfl (.c rfl (.c rfl (.c rfl (.c rfl (.c rfl (.c rfl (.c rfl (.c rfl (.c rfl (.c rfl (.c rfl (.c rfl (.c rfl (.c rfl (.c rfl (.c rfl (.c rfl (.c rfl (.c rfl (.c rfl (.c rfl (.c rfl (.c rfl (.c rfl (.c rfl (.c rfl (.c rfl (.c rfl (.c rfl (.c rfl (.c rfl (.c rfl (.c rfl (.c rfl (.c rfl (.c rfl (.c rfl (.c rfl (.c rfl (.c rfl (.c rfl (.c rfl (.c rfl (.c rfl (.c rfl (.c rfl (.c rfl (.c rfl (.c rfl .n)))))))))))))))))))))))))))))))))))))))))))))))))))))))) (.c 0 rfl (.c 0 rfl (.c 0 rfl (.c 1 rfl (.c 0 rfl .r))))) ?_
            rintro ⟨j3, k8, r⟩ ⟨hj3, hk8, hr1, hr2⟩
            dsimp only at hj3 hk8 hr1 hr2 ⊢
            refine kSeq ?_
            refine kRegion rfl ?_
            refine lV (yLss rfl rfl) rfl rfl ?_
            refine lNil ?_
            refine kThen ?_
            refine kSeq ?_
            refine split (t := 121) rfl (fun h121 => ?_) (fun h121 => ?_)
            · refine kIfT rfl ?_
              refine kSkip ?_
              refine kThen ?_
              refine kSeq ?_
              refine kBlock ?_
              refine kSeq ?_
              refine kRegion rfl ?_
              refine lV (yFieldAddr rfl F47_2) rfl rfl ?_
              refine lV (yLoad1 rfl O3 (cOwn 6 rfl rfl)) rfl rfl ?_
              refine lV (yQuo rfl rfl (by omega) (by omega) (by omega)) rfl rfl ?_
              refine lV (yAssign rfl) rfl rfl ?_
              refine lNil ?_
              refine kThen ?_
              refine kSeq ?_
              refine kRegion rfl ?_
              refine lV (yFieldAddr rfl F29_0) rfl rfl ?_
              refine lV (yFieldAddr rfl F26_0) rfl rfl ?_
              refine lV (yLoad1 rfl O22 (cOwn 5 rfl rfl)) rfl rfl ?_
              refine lV (yMove rfl) rfl rfl ?_
              refine same (t := 128) (u := i64 (((r / 1000).toNat : Nat) : Int)) rfl (by congr 1; omega) ?_
              refine lV (yIndexS  rfl rfl S22 (fun w hw => OS.rowsE (f := rowE) (0, 0) hg hw (.c 0 rfl .n)) (by omega)) rfl rfl ?_
              refine lV (yLoadA (vs := [_, _]) rfl A24 (cSl0 (fun w hw => OS.rowsE (f := rowE) (0, 0) hg hw (.c 0 rfl .n)) (by omega) rfl)) rfl rfl ?_
              refine lE rfl ?_
              refine eAlloc Z24 fun n10 => ?_
              refine lE rfl ?_
              refine eStoreL 0 rfl rfl rfl rfl K24 rfl (rfl) ?_
              refine lNil ?_
              refine kThen ?_
              refine kSeq ?_
              have hbe := hel _ (getD_mem (l := es) (i := (r / 1000).toNat) (by omega) (0, 0))
              have hb15 := draw_bd l (k8 + 1) (n := (es.getD (r / 1000).toNat (0, 0)).2 - (es.getD (r / 1000).toNat (0, 0)).1 + d4 - -d3 + 1) (by omega)
              refine kDrawE [] [(1, (fun w => w.heap[n10]? = some (blk [i64 (es.getD (r / 1000).toNat (0, 0)).1, i64 (es.getD (r / 1000).toNat (0, 0)).2] 24))), (5, (fun w => w.heap[n2]? = some (blk [.slice (some ⟨nE, 0, none⟩) es.length cE, i64 (-d3), i64 d4, i64 (1 + d5), i64 (1 + d6), i64 (-d7), i64 d8, osV g4 (ls.map rowK).length] 29))), (9, (fun w => w.heap[n10]? = some (blk [i64 (es.getD (r / 1000).toNat (0, 0)).1, i64 (es.getD (r / 1000).toNat (0, 0)).2] 24))), (11, (fun w => w.heap[n10]? = some (blk [i64 (es.getD (r / 1000).toNat (0, 0)).1, i64 (es.getD (r / 1000).toNat (0, 0)).2] 24))), (16, (fun w => w.heap[n2]? = some (blk [.slice (some ⟨nE, 0, none⟩) es.length cE, i64 (-d3), i64 d4, i64 (1 + d5), i64 (1 + d6), i64 (-d7), i64 d8, osV g4 (ls.map rowK).length] 29))), (21, (fun w => w.heap[n2]? = some (blk [.slice (some ⟨nE, 0, none⟩) es.length cE, i64 (-d3), i64 d4, i64 (1 + d5), i64 (1 + d6), i64 (-d7), i64 d8, osV g4 (ls.map rowK).length] 29)))] [0, 1, 2, 3, 4, 5, 6, 7, 8, 9, 10, 11, 12, 13, 14, 15, 16, 17, 18, 19, 20, 21, 22, 23] 3 hMix (by kernel_rfl) ?_
              refine .run rfl (yFieldAddr rfl F24_0) rfl rfl ?_
              refine .run rfl (yLoad1 rfl O3 (cHeap rfl)) rfl rfl ?_
              refine .run rfl (yFieldAddr rfl F29_0) rfl rfl ?_
              refine .run rfl (yFieldAddr rfl F26_1) rfl rfl ?_
              refine .run rfl (yFieldAddr rfl F24_0) rfl rfl ?_
              refine .run rfl (yLoad1 rfl O3 (cHeap rfl)) rfl rfl ?_
              refine .run rfl (yAdd rfl rfl (by omega)) rfl rfl ?_
              refine .run rfl (yMove rfl) rfl rfl ?_
              refine .run rfl (yFieldAddr rfl F24_1) rfl rfl ?_
              refine .run rfl (yLoad1 rfl O3 (cHeap rfl)) rfl rfl ?_
              refine .run rfl (yFieldAddr rfl F24_0) rfl rfl ?_
              refine .run rfl (yLoad1 rfl O3 (cHeap rfl)) rfl rfl ?_
              refine .run rfl (ySub rfl rfl (by omega)) rfl rfl ?_
              refine .run rfl (yFieldAddr rfl F29_0) rfl rfl ?_
              refine .run rfl (yFieldAddr rfl F26_1) rfl rfl ?_
              refine .run rfl (yFieldAddr rfl F24_1) rfl rfl ?_
              refine .run rfl (yLoad1 rfl O3 (cHeap rfl)) rfl rfl ?_
              refine .run rfl (yAdd rfl rfl (by omega)) rfl rfl ?_
              refine .run rfl (yFieldAddr rfl F29_0) rfl rfl ?_
              refine .run rfl (yFieldAddr rfl F26_1) rfl rfl ?_
              refine .run rfl (yFieldAddr rfl F24_0) rfl rfl ?_
              refine .run rfl (yLoad1 rfl O3 (cHeap rfl)) rfl rfl ?_
              refine .run rfl (ySub rfl rfl (by omega)) rfl rfl ?_
              refine .run rfl (yAdd rfl rfl (by omega)) rfl rfl ?_
              refine .done ?_
              refine effStep 24 [] (by kernel_rfl) closedSt (hLeft [1, 5, 9, 11, 16, 21] (by kernel_rfl) (.c (fun _ _ hs => by first | exact hs.ef.blkAt 2 rfl | exact hs.ef.blkAt 3 rfl) (.c (fun _ _ hs => by first | exact hs.ef.blkAt 6 rfl | exact hs.ef.blkAt 7 rfl) (.c (fun _ _ hs => by first | exact hs.ef.blkAt 2 rfl | exact hs.ef.blkAt 3 rfl) (.c (fun _ _ hs => by first | exact hs.ef.blkAt 2 rfl | exact hs.ef.blkAt 3 rfl) (.c (fun _ _ hs => by first | exact hs.ef.blkAt 6 rfl | exact hs.ef.blkAt 7 rfl) (.c (fun _ _ hs => by first | exact hs.ef.blkAt 6 rfl | exact hs.ef.blkAt 7 rfl) .n))))))) ?_
              refine .c ?_ .n
              refine effOne rfl (gNone rfl (eCallWM 0 rfl rfl (.c rfl .n) C64 (fun w hw hb => draw1_any nb nc a c l k8 ((es.getD (r / 1000).toNat (0, 0)).2 - (es.getD (r / 1000).toNat (0, 0)).1 + d4 - -d3 + 1) w hb ⟨hw.blkAt 1 rfl, hd.s.eff hw (mne ho.na ho.nc)⟩ ho (by omega) (by omega)) trSelf)) ?_
              refine effStep 25 [] (by kernel_rfl) closedSt (hLeft [1, 5, 9, 11, 16] (by kernel_rfl) (.c (fun _ _ hs => by first | exact hs.ef.blkAt 2 rfl | exact hs.ef.blkAt 3 rfl) (.c (fun _ _ hs => by first | exact hs.ef.blkAt 6 rfl | exact hs.ef.blkAt 7 rfl) (.c (fun _ _ hs => by first | exact hs.ef.blkAt 2 rfl | exact hs.ef.blkAt 3 rfl) (.c (fun _ _ hs => by first | exact hs.ef.blkAt 2 rfl | exact hs.ef.blkAt 3 rfl) (.c (fun _ _ hs => by first | exact hs.ef.blkAt 6 rfl | exact hs.ef.blkAt 7 rfl) .n)))))) ?_
              refine .c ?_ .n
              refine effOne rfl (gNone rfl (fV (yAdd rfl rfl (by omega)) rfl)) ?_
              refine effStep 26 [] (by kernel_rfl) closedSt (hLeft [9, 11, 16] (by kernel_rfl) (.c (fun _ _ hs => by first | exact hs.ef.blkAt 2 rfl | exact hs.ef.blkAt 3 rfl) (.c (fun _ _ hs => by first | exact hs.ef.blkAt 2 rfl | exact hs.ef.blkAt 3 rfl) (.c (fun _ _ hs => by first | exact hs.ef.blkAt 6 rfl | exact hs.ef.blkAt 7 rfl) .n)))) ?_
              refine .c ?_ .n
              refine effOne rfl (gNone rfl (fV (yAssign rfl) rfl)) ?_
              refine effDone closedSt (hLeft [] (by kernel_rfl) .n) (by kernel_rfl) ?_
              obtain ⟨d15, ed15⟩ : ∃ d, drawI l (k8 + 1) ((es.getD (r / 1000).toNat (0, 0)).2 - (es.getD (r / 1000).toNat (0, 0)).1 + d4 - -d3 + 1) = d := ⟨_, rfl⟩
              rw [ed15] at hb15
              rw [ed15]
              refine kThen ?_
              refine kSeq ?_
              refine kRegion rfl ?_
              refine lV (yMove rfl) rfl rfl ?_
              refine lV (yMove rfl) rfl rfl ?_
              refine lV (ySub rfl rfl (by omega)) rfl rfl ?_
              refine lV (yFieldAddr rfl F47_2) rfl rfl ?_
              refine lE rfl ?_
              refine eStoreL 5 rfl rfl rfl rfl K3 rfl (rfl) ?_
              refine lNil ?_
              obtain ⟨r2, hr2e⟩ : ∃ v : Int, t - ((es.getD (r / 1000).toNat (0, 0)).1 + -d3 + d15) = v := ⟨_, rfl⟩
              rw [hr2e]
              have hr2b : 200 ≤ r2 ∧ r2 ≤ 3400 := by omega
              refine kThen ?_
              refine kSeq ?_
              refine kRegion rfl ?_
              refine lV (yFieldAddr rfl F47_2) rfl rfl ?_
              refine lV (yLoad1 rfl O3 (cOwn 7 rfl rfl)) rfl rfl ?_
              refine lV (yQuo rfl rfl (by omega) (by omega) (by omega)) rfl rfl ?_
              refine lV (yMove rfl) rfl rfl ?_
              refine lV (yEql rfl rfl) rfl rfl ?_
              refine lNil ?_
              refine kThen ?_
              refine split (t := 165) rfl (fun h165 => ?_) (fun h165 => ?_)
              · refine kIfT rfl ?_
                refine kSeq ?_
                have hgood : goodW ⟨es, (-d3, d4), 1 + d5, 1 + d6, (-d7, d8), []⟩ hs ps (d13, d14, r2) := good_of (n := r / 1000) (t := t) (d := d15) hlen ⟨by omega, by omega⟩ ⟨by omega, by omega⟩ ht ⟨hb15.1, by dsimp only; omega⟩ (by dsimp only; omega) ⟨by omega, by omega⟩ h165
                refine kRegion rfl ?_
                refine lV (yFieldAddr rfl F29_4) rfl rfl ?_
                refine lV (yLoad1 rfl O27 (cOwn 6 rfl rfl)) rfl rfl ?_
                refine lV (yLoadA (vs := [_, _, _]) rfl A47 (cOwn 7 rfl rfl)) rfl rfl ?_
                refine lE rfl ?_
                refine eBuildSlice (.c rfl .n) (fun w => BS27_1_0 w) fun n169 => ?_
                refine lE rfl ?_
                refine eAppend (gs := g4) [(n169, _), (n10, _), (nE, _), (nH, _), (nP, _), (n2, _), (n7, _)] [rowK (d13, d14, r2)] AP27 rfl rfl .r hg4 rfl (rowsK_len [_]) (SlN.own 2 rfl rfl) (rowsK_one [_]) (by simp; omega) (by simp; omega) fun h4 hh4 => ?_
                refine same (t := 170) (u := osV h4 (List.map rowK (ls ++ [(d13, d14, r2)])).length) rfl (by rw [List.map_append]; rfl) ?_
                refine lV (yFieldAddr rfl F29_4) rfl rfl ?_
                refine lE rfl ?_
                refine eStoreL 5 rfl rfl rfl rfl K27 rfl (rfl) ?_
                refine lNil ?_
                refine kThen ?_
                refine kExit ?_
                refine kInY rfl ?_
                refine kThenX ?_
                refine kThenX ?_
                refine kInX ?_
                refine kInN ?_
                refine kThen ?_
                refine kRegion rfl ?_
                refine lV (yAdd rfl rfl (by omega)) rfl rfl ?_
                refine lV (yMove rfl) rfl rfl ?_
                refine lNil ?_
                exact kRoundX (i2 + 1, k8 + 1, h4, ls ++ [(d13, d14, r2)]) (⟨by dsimp only; omega, by dsimp only; omega, by simp; omega, fun s hs => (List.mem_append.1 hs).elim (hgd s) fun hs => by simp only [List.mem_singleton] at hs; subst hs; exact hgood, by dsimp only; rw [List.map_append]; exact hh4⟩) (by dsimp only; omega) rfl (.c rfl .n) (.c rfl (.c rfl (.c rfl (.c rfl (.c rfl (.c rfl (.c rfl (.c rfl (.c rfl (.c rfl (.c rfl (.c rfl (.c rfl (.c rfl (.c rfl (.c rfl (.c rfl (.c rfl (.c rfl (.c rfl (.c rfl (.c rfl (.c rfl (.c rfl (.c rfl (.c rfl (.c rfl (.c rfl (.c rfl (.c rfl (.c rfl (.c rfl (.c rfl (.c rfl (.c rfl (.c rfl (.c rfl (.c rfl (.c rfl .n))))))))))))))))))))))))))))))))))))))) (.c 2 rfl (.c 2 rfl (.c 2 rfl (.c 2 rfl (.d 0 (.d 0 (.d 0 .r)))))))
              · refine kIfF rfl ?_
                refine kSkip ?_
                refine kInN ?_
                refine kThen ?_
                refine kRegion rfl ?_
                refine lV (yAdd rfl rfl (by omega)) rfl rfl ?_
                refine lV (yMove rfl) rfl rfl ?_
                refine lNil ?_
                exact kRoundX (j3 + 1, k8 + 1, r2) (⟨by dsimp only; omega, by dsimp only; omega, by dsimp only; omega, by dsimp only; omega⟩) (by dsimp only; omega) rfl (.c rfl .n) (.c rfl (.c rfl (.c rfl (.c rfl (.c rfl (.c rfl (.c rfl (.c rfl (.c rfl (.c rfl (.c rfl (.c rfl (.c rfl (.c rfl (.c rfl (.c rfl (.c rfl (.c rfl (.c rfl (.c rfl (.c rfl (.c rfl (.c rfl (.c rfl (.c rfl (.c rfl (.c rfl (.c rfl (.c rfl (.c rfl (.c rfl (.c rfl (.c rfl (.c rfl (.c rfl (.c rfl (.c rfl (.c rfl (.c rfl (.c rfl (.c rfl (.c rfl (.c rfl (.c rfl (.c rfl (.c rfl (.c rfl (.c rfl (.c rfl (.c rfl (.c rfl (.c rfl (.c rfl (.c rfl (.c rfl (.c rfl .n)))))))))))))))))))))))))))))))))))))))))))))))))))))))) (.c 1 rfl (.c 1 rfl (.c 1 rfl (.c 1 rfl (.c 1 rfl (.d 0 .r))))))
            · refine kIfF rfl ?_
              refine kExit ?_
              refine kThenX ?_
              refine kThenX ?_
              refine kInX ?_
              refine kInN ?_
              refine kThen ?_
              refine kRegion rfl ?_
              refine lV (yAdd rfl rfl (by omega)) rfl rfl ?_
              refine lV (yMove rfl) rfl rfl ?_
              refine lNil ?_
              exact kRoundX (i2 + 1, k8, g4, ls) (⟨by dsimp only; omega, by dsimp only; omega, by dsimp only; omega, hgd, hg4⟩) (by dsimp only; omega) rfl (.c rfl .n) (.c rfl (.c rfl (.c rfl (.c rfl (.c rfl (.c rfl (.c rfl (.c rfl (.c rfl (.c rfl (.c rfl (.c rfl (.c rfl (.c rfl (.c rfl (.c rfl (.c rfl (.c rfl (.c rfl (.c rfl (.c rfl (.c rfl (.c rfl (.c rfl (.c rfl (.c rfl (.c rfl (.c rfl (.c rfl (.c rfl (.c rfl (.c rfl (.c rfl (.c rfl (.c rfl (.c rfl (.c rfl (.c rfl (.c rfl .n))))))))))))))))))))))))))))))))))))))) (.c 0 rfl (.c 0 rfl (.c 0 rfl (.c 0 rfl (.d 0 .r)))))
        · refine kIfF rfl ?_
          refine kExit ?_
          refine kThenX ?_
          refine kThenX ?_
          refine kInX ?_
          refine kThen ?_
          refine kSeq ?_
          refine kRegion rfl ?_
          refine lV (yLoadA (vs := [_, _, _, _, _, _, _, _]) rfl A29 (cOwn 5 rfl rfl)) rfl rfl ?_
          refine lV (yMove rfl) rfl rfl ?_
          refine lV (yMove rfl) rfl rfl ?_
          refine lE rfl ?_
          refine eStoreL 3 rfl rfl rfl rfl K29 rfl (rfl) ?_
          refine lV (yAssign rfl) rfl rfl ?_
          refine lV (yAssign rfl) rfl rfl ?_
          refine lNil ?_
          refine kThen ?_
          refine kRet ?_
          refine fRet rfl (.cA (us := [_, _, _, _, _, _, _, _]) rfl A29 (cOwn 5 rfl rfl) (.t rfl (.t rfl .n))) ?_
          rw [List.length_map]
          exact endX (MadeX.mk ⟨es, (-d3, d4), 1 + d5, 1 + d6, (-d7, d8), ls⟩ hs ps nE cE vE nH cH vH nP cP vP g4 k7) ⟨made_of hbase (by omega) hgd, hg, hg2, hg3, hg4⟩ rfl rfl (.c 0 rfl (.c 0 rfl (.c 0 rfl (.d 0 .r))))
end Go.Proofs.Ytiaaidcdoenloaa
