/-
  Walks: numbers drawn; measures that are truly made.
-/
import Derived.Test.YtoefcofplkbnkaaRd
import Derived.Test.YtoefcofplkbnkaaLl
namespace Go.Proofs.Ytoefcofplkbnkaa
open ZW

abbrev l16C (l : List Nat) (i : Nat) : List Value := [.int .u16 (l.getD i 0 : Nat)]
theorem mne {nb nc b : Nat} {o o' : Obj} (h : nb ≠ b) (k : nc ≠ b) : ∀ p ∈ ([(nb, o), (nc, o')] : Heap), p.1 ≠ b := by
  intro p hp
  simp only [List.mem_cons, List.not_mem_nil, or_false] at hp
  rcases hp with rfl | rfl
  · exact h
  · exact k
/-- Where numbers are drawn from. -/
structure DrawIn (w : World) (nb nc : Nat) (a : Option Addr) (c : Nat) (l : List Nat) : Prop where
  box : w.heap[nc]? = some (blk [.slice a l.length c] 40)
  s : SlE w a l.length 1 (l16C l)
structure DrawOk (nb nc : Nat) (a : Option Addr) (l : List Nat) : Prop where
  ne : nb ≠ nc
  na : nb ≠ sblk a
  nc : nc ≠ sblk a
  pos : 0 < l.length
  q : ∀ x ∈ l, x < 65536
set_option maxRecDepth 100000 in
theorem draw1_any (nb nc : Nat) (a : Option Addr) (c : Nat) (l : List Nat) (k : Nat) (n : Int) (w : World) (hb : w.heap[nb]? = some (blk [i64 (k : Nat)] 3)) (hd : DrawIn w nb nc a c l) (ho : DrawOk nb nc a l) (hk : k < 100000) (hn : 0 < n) :
    Calls Try.prog 65 [i64 n, .pointer (some ⟨nb, 0, none⟩), .pointer (some ⟨nc, 0, none⟩)].toArray w (Wr w nb (blk [i64 ((k + 1 : Nat) : Int)] 3) (i64 (drawI l (k + 1) n))) := by
  have hc := hd.box
  have hpos := ho.pos
  have hm : (k + 1) % l.length < l.length := Nat.mod_lt _ hpos
  have hq := ho.q _ (getD_mem hm 0)
  refine fEnterM (Eff.two hb hc ho.ne) Try.func65 rfl Try.ntmps65 rfl ?_
  refine kSeq ?_
  refine kRegion rfl ?_
  refine lV (yAssign rfl) rfl rfl ?_
  refine lNil ?_
  refine kThen ?_
  refine kSeq ?_
  refine kRegion rfl ?_
  refine lV (yLoad1 rfl O3 (cOwn 0 rfl rfl)) rfl rfl ?_
  refine lV (yAdd rfl rfl (by omega)) rfl rfl ?_
  refine same (t := 6) (u := i64 ((k + 1 : Nat) : Int)) rfl (by congr 1) ?_
  refine lE rfl ?_
  refine eStoreM 0 rfl rfl rfl rfl K3 rfl (rfl) ?_
  refine lNil ?_
  refine kThen ?_
  refine kSeq ?_
  refine kDrawE [(0, none), (1, none), (2, none), (5, none), (6, none), (8, none)] [] [0, 1, 2, 3, 4, 5, 6, 7, 8, 9, 10, 11, 12, 13] 0 hMix (by kernel_rfl) ?_
  refine .run rfl (yLoad1 rfl O40 (cOwn 1 rfl rfl)) rfl rfl ?_
  refine .run rfl (yLoad1 rfl O3 (cOwn 0 rfl rfl)) rfl rfl ?_
  refine .run rfl (yLoad1 rfl O40 (cOwn 1 rfl rfl)) rfl rfl ?_
  refine .run rfl (yLen rfl S40) rfl rfl ?_
  refine .run rfl (yvSame (u := i64 (((k + 1) % l.length : Nat) : Int)) (yRem rfl rfl (by omega) (by omega)) (by congr 1)) rfl rfl ?_
  refine .run rfl (yIndexS  rfl rfl S40 (hd.s.r (mne ho.na ho.nc)) (hm)) rfl rfl ?_
  refine .run rfl (yLoad1 rfl O51 (cSl0 (hd.s.r (mne ho.na ho.nc)) (hm) rfl)) rfl rfl ?_
  refine .run rfl (yConvInt rfl U51 U3 (conv_ok (by omega))) rfl rfl ?_
  refine .run rfl (yLoad1 rfl O3 (cOwn 0 rfl rfl)) rfl rfl ?_
  refine .run rfl (yMul rfl rfl (by omega)) rfl rfl ?_
  refine .run rfl (yvSame (u := i64 ((l.getD ((k + 1) % l.length) 0 + 23 * (k + 1) : Nat) : Int)) (yAdd rfl rfl (by omega)) (by congr 1)) rfl rfl ?_
  refine .run rfl (yMove rfl) rfl rfl ?_
  refine .run rfl (yRem rfl rfl (by omega) (by omega)) rfl rfl ?_
  refine .run rfl (yAssign rfl) rfl rfl ?_
  refine .done ?_
  refine effDone closedSt (hLeft [0, 1, 2, 5, 6, 8] (by kernel_rfl) (.c (fun _ _ hs => hs.ef) (.c (fun _ _ hs => hs.ef) (.c (fun _ _ hs => hs.ef) (.c (fun _ _ hs => hs.ef) (.c (fun _ _ hs => hs.ef) (.c (fun _ _ hs => hs.ef) .n))))))) (by kernel_rfl) ?_
  refine kThen ?_
  refine kRet ?_
  refine fRet rfl (.t rfl .n) ?_
  exact endW2 rfl rfl hc
theorem own_b {sz : Nat} {g : Own} {es : List (List Value)} (h : OS sz g es) (hn : es ≠ []) : ∃ n c l, g = .b n c l := by
  cases g with
  | e a => exact absurd h.at_ hn
  | b n c l => exact ⟨n, c, l, rfl⟩
abbrev rowV (v : Int) : List Value := [i64 v]
structure MadeX where
  m : Meas
  sum : Int
  ps : List Int
  nE : Nat
  cE : Nat
  vE : List Value
  nP : Nat
  cP : Nat
  vP : List Value
  g : Own
  k : Nat
abbrev madL (x : MadeX) : Loc := ⟨some ⟨x.nE, 0, none⟩, x.cE, osA x.g, osC x.g⟩
structure MadeOk (x : MadeX) : Prop where
  m : Made x.m x.sum x.ps
  e : OS 2 (.b x.nE x.cE x.vE) (x.m.errs.map rowE)
  p : OS 1 (.b x.nP x.cP x.vP) (x.ps.map rowV)
  s : OS 3 x.g (x.m.sets.map rowS)
abbrev madC (g : Own) (n : Nat) : List Value := [osV g n, i64 0, i64 0, i64 0, i64 0, i64 0, .slice none 0 0]
set_option maxHeartbeats 4000000 in
set_option maxRecDepth 100000 in
theorem made_any (nb nc : Nat) (a : Option Addr) (c : Nat) (l : List Nat) (w : World) (hb : w.heap[nb]? = some (blk [i64 0] 3)) (hd : DrawIn w nb nc a c l) (ho : DrawOk nb nc a l) :
    Calls Try.prog 24 [.func (.func 65) [].toArray [.pointer (some ⟨nb, 0, none⟩), .pointer (some ⟨nc, 0, none⟩)].toArray].toArray w
      (RetX w MadeOk (fun x => .tuple [.agg (measC (madL x) x.m).toArray, i64 x.sum, .slice (some ⟨x.nP, 0, none⟩) x.ps.length x.cP].toArray) (fun x => [(nb, blk [i64 (x.k : Nat)] 3), (nc, blk [.slice a l.length c] 40)]) (fun x => [(x.nE, blk x.vE 24), (x.nP, blk x.vP 3)] ++ osL 49 x.g)) := by
  have hc := hd.box
  refine fEnterM (Eff.two hb hc ho.ne) Try.func24 rfl Try.ntmps24 rfl ?_
  refine kSeq ?_
  refine kRegion rfl ?_
  refine lE rfl ?_
  refine eAlloc Z29 fun n2 => ?_
  refine lV (yAssign rfl) rfl rfl ?_
  refine lV (yAssign rfl) rfl rfl ?_
  refine lNil ?_
  refine kThen ?_
  refine kSeq ?_
  refine kSeq ?_
  refine kRegion rfl ?_
  refine lV (yMove rfl) rfl rfl ?_
  refine lE rfl ?_
  refine eCallWM 0 rfl rfl (.c rfl .n) C65 (fun w hw hb => draw1_any nb nc a c l 0 10 w hb ⟨hw.blkAt 1 rfl, hd.s.eff hw (mne ho.na ho.nc)⟩ ho (by omega) (by omega)) ?_
  obtain ⟨d0, ed0, bd0⟩ : ∃ d, drawI l (0 + 1) 10 = d ∧ 0 ≤ d ∧ d < 10 := ⟨_, rfl, draw_bd _ _ (by omega)⟩
  rw [ed0]
  refine lV (yAdd rfl rfl (by omega)) rfl rfl ?_
  refine lV (yMove rfl) rfl rfl ?_
  refine lNil ?_
  refine kThen ?_
  refine kBlock ?_
  refine kLoopX (ι := Nat × Nat × Own × List (Int × Int) × Nat) (fun x => (x.1 : Int) ≤ 5 + d0 ∧ x.2.1 ≤ 1 + 2 * x.1 ∧ x.2.2.2.1.length = x.1 ∧ (∀ e ∈ x.2.2.2.1, -10 ≤ e.1 ∧ e.1 ≤ e.2 ∧ e.2 ≤ 20) ∧ OS 2 x.2.2.1 (x.2.2.2.1.map rowE) ∧ x.2.2.2.2 = (x.2.2.2.1.map rowE).length) (fun x => [(15, i64 (x.1 : Nat))]) [(0, _), (2, _), (3, _), (4, _), (12, _), (13, _), (14, _)] (fun x => [(nb, blk [i64 (x.2.1 : Nat)] 3), (nc, blk [.slice a l.length c] 40)]) (fun x => ([(n2, blk (madC x.2.2.1 x.2.2.2.2) 29)] ++ osL 24 x.2.2.1)) [] (fun x => (5 + d0).toNat - x.1) (0, 0 + 1, .e none, [], 0) (⟨by dsimp only; omega, by dsimp only; omega, rfl, by simp, OS.empty, rfl⟩) rfl (.c rfl .n) (.c rfl (.c rfl (.c rfl (.c rfl (.c rfl (.c rfl (.c rfl .n))))))) (.c 0 rfl .n) ?_
  rintro ⟨i, k, g, es, n⟩ ⟨hi, hk, hes, hel, hg, hn⟩
  dsimp only at hi hk hes hel hg hn ⊢
  subst hn
  refine kSeq ?_
  refine kRegion rfl ?_
  refine lV (yLss rfl rfl) rfl rfl ?_
  refine lNil ?_
  refine kThen ?_
  refine kSeq ?_
  refine split (t := 16) rfl (fun h16 => ?_) (fun h16 => ?_)
  · refine kIfT rfl ?_
    refine kSkip ?_
    refine kThen ?_
    refine kSeq ?_
    refine kBlock ?_
    refine kSeq ?_
    refine kRegion rfl ?_
    refine lV (yMove rfl) rfl rfl ?_
    refine lE rfl ?_
    refine eCallWM 0 rfl rfl (.c rfl .n) C65 (fun w hw hb => draw1_any nb nc a c l k 20 w hb ⟨hw.blkAt 1 rfl, hd.s.eff hw (mne ho.na ho.nc)⟩ ho (by omega) (by omega)) ?_
    obtain ⟨d1, ed1, bd1⟩ : ∃ d, drawI l (k + 1) 20 = d ∧ 0 ≤ d ∧ d < 20 := ⟨_, rfl, draw_bd _ _ (by omega)⟩
    rw [ed1]
    refine lV (ySub rfl rfl (by omega)) rfl rfl ?_
    refine lV (yAssign rfl) rfl rfl ?_
    refine lNil ?_
    refine kThen ?_
    have hb2 := draw_bd l (k + 1 + 1) (n := 8) (by omega)
    refine kDrawE [] [(2, (fun w => w.heap[n2]? = some (blk (madC g (es.map rowE).length) 29)))] [0, 1, 2, 3, 4, 5, 11, 12] 6 hMix (by kernel_rfl) ?_
    refine .run rfl (yFieldAddr rfl F29_0) rfl rfl ?_
    refine .run rfl (yFieldAddr rfl F26_0) rfl rfl ?_
    refine .run rfl (yLoad1 rfl O22 (cHeap rfl)) rfl rfl ?_
    refine .run rfl (yMove rfl) rfl rfl ?_
    refine .run rfl (yMove rfl) rfl rfl ?_
    refine .run rfl (yMove rfl) rfl rfl ?_
    refine .run rfl (yFieldAddr rfl F29_0) rfl rfl ?_
    refine .run rfl (yFieldAddr rfl F26_0) rfl rfl ?_
    refine .done ?_
    refine effStep 6 [] (by kernel_rfl) closedSt (hLeft [2] (by kernel_rfl) (.c (fun _ _ hs => hs.ef.blkAt 2 rfl) .n)) ?_
    refine .c ?_ .n
    refine effOne rfl (gNone rfl (eCallWM 0 rfl rfl (.c rfl .n) C65 (fun w hw hb => draw1_any nb nc a c l (k + 1) 8 w hb ⟨hw.blkAt 1 rfl, hd.s.eff hw (mne ho.na ho.nc)⟩ ho (by omega) (by omega)) trSelf)) ?_
    refine effStep 7 [] (by kernel_rfl) closedSt (hLeft [2] (by kernel_rfl) (.c (fun _ _ hs => hs.ef.blkAt 2 rfl) .n)) ?_
    refine .c ?_ .n
    refine effOne rfl (gNone rfl (fV (yAdd rfl rfl (by omega)) rfl)) ?_
    refine effStep 8 [] (by kernel_rfl) closedSt (hLeft [2] (by kernel_rfl) (.c (fun _ _ hs => hs.ef.blkAt 2 rfl) .n)) ?_
    refine .c ?_ .n
    refine effOne rfl (gNone rfl (fV (yCall rfl (.c rfl (.c rfl .n)) C30 (fun w hw => spanL_any _ _ w)) rfl)) ?_
    refine effStep 9 [] (by kernel_rfl) closedSt (hLeft [2] (by kernel_rfl) (.c (fun _ _ hs => hs.ef.blkAt 2 rfl) .n)) ?_
    refine .c ?_ .n
    refine effOne rfl (gNone rfl (fBuildSlice (.c rfl .n) (fun w => BS22_1_0 w))) ?_
    refine effStep 10 [] (by kernel_rfl) (closedEx fun n29 => closedSt) (hLeft [2] (by kernel_rfl) (.c (fun _ _ ⟨n29, hs⟩ => hs.ef.blkAt 3 rfl) .n)) ?_
    refine .c ?_ .n
    refine effOne rfl (opEx fun n29 => (gNone rfl (fAppend (gs := g) [(n29, _), (n2, _)] [rowE (d1 - 10, d1 - 10 + drawI l (k + 1 + 1) 8)] AP22 rfl rfl .r hg rfl (rowsE_len [_]) (SlN.own 2 rfl rfl) (rowsE_one [_]) (by simp; omega) (by simp; omega)))) ?_
    refine effStep 13 [] (by kernel_rfl) (closedEx fun n29 => (closedEx fun h => closedSt)) (hLeft [] (by kernel_rfl) .n) ?_
    refine .c ?_ .n
    refine effOne rfl (opEx fun n29 => (opEx fun h => (gNone rfl (fStoreL 1 rfl rfl rfl rfl K22 rfl (rfl))))) ?_
    refine effDone (closedEx fun n29 => (closedEx fun h => closedSt)) (hLeft [] (by kernel_rfl) .n) (by kernel_rfl) ?_
    refine trEx fun n29 => ?_
    refine trEx fun h => ?_
    refine kInN ?_
    refine kThen ?_
    refine kRegion rfl ?_
    refine lV (yAdd rfl rfl (by omega)) rfl rfl ?_
    refine lV (yMove rfl) rfl rfl ?_
    refine lNil ?_
    exact kRoundX (i + 1, k + 1 + 1, h.1, es ++ [(d1 - 10, d1 - 10 + drawI l (k + 1 + 1) 8)], (es.map rowE ++ [rowE (d1 - 10, d1 - 10 + drawI l (k + 1 + 1) 8)]).length) (⟨by dsimp only; omega, by dsimp only; omega, by simp; omega, fun e he => by rcases List.mem_append.1 he with he | he; (· exact hel e he); (simp only [List.mem_singleton] at he; subst he; exact ⟨by dsimp only; omega, by dsimp only; omega, by dsimp only; omega⟩), by dsimp only; rw [List.map_append]; exact h.2, by simp⟩) (by dsimp only; omega) rfl (.c rfl .n) (.c rfl (.c rfl (.c rfl (.c rfl (.c rfl (.c rfl (.c rfl .n))))))) (.c 1 rfl (.d 0 .r))
  · refine kIfF rfl ?_
    refine kExit ?_
    refine kThenX ?_
    refine kThenX ?_
    refine kInX ?_
    refine kThen ?_
    refine kSeq ?_
    have hlen : 5 ≤ es.length ∧ es.length ≤ 14 := by omega
    obtain ⟨nE, cE, vE, rfl⟩ := own_b hg (by intro h; have := congrArg List.length h; simp at this; rw [this] at hlen; simp at hlen)
    rw [List.length_map]
    have hk2 : k ≤ 29 := by omega
    refine kRegion rfl ?_
    refine lV (yMove rfl) rfl rfl ?_
    refine lE rfl ?_
    refine eCallWM 0 rfl rfl (.c rfl .n) C65 (fun w hw hb => draw1_any nb nc a c l k 6 w hb ⟨hw.blkAt 1 rfl, hd.s.eff hw (mne ho.na ho.nc)⟩ ho (by omega) (by omega)) ?_
    obtain ⟨d3, ed3, bd3⟩ : ∃ d, drawI l (k + 1) 6 = d ∧ 0 ≤ d ∧ d < 6 := ⟨_, rfl, draw_bd _ _ (by omega)⟩
    rw [ed3]
    refine lV (yNeg rfl (by omega)) rfl rfl ?_
    refine lV (yMove rfl) rfl rfl ?_
    refine lE rfl ?_
    refine eCallWM 0 rfl rfl (.c rfl .n) C65 (fun w hw hb => draw1_any nb nc a c l (k + 1) 6 w hb ⟨hw.blkAt 1 rfl, hd.s.eff hw (mne ho.na ho.nc)⟩ ho (by omega) (by omega)) ?_
    obtain ⟨d4, ed4, bd4⟩ : ∃ d, drawI l (k + 1 + 1) 6 = d ∧ 0 ≤ d ∧ d < 6 := ⟨_, rfl, draw_bd _ _ (by omega)⟩
    rw [ed4]
    refine lV (yCall rfl (.c rfl (.c rfl .n)) C30 (fun w hw => spanL_any _ _ w)) rfl rfl ?_
    refine lV (yFieldAddr rfl F29_0) rfl rfl ?_
    refine lV (yFieldAddr rfl F26_1) rfl rfl ?_
    refine lE rfl ?_
    refine eStoreL 0 rfl rfl rfl rfl K24 rfl (rfl) ?_
    refine lNil ?_
    refine kThen ?_
    refine kSeq ?_
    refine kRegion rfl ?_
    refine lV (yFieldAddr rfl F29_0) rfl rfl ?_
    refine lV (yFieldAddr rfl F26_0) rfl rfl ?_
    refine lV (yLoad1 rfl O22 (cOwn 2 rfl rfl)) rfl rfl ?_
    refine lV (yLen rfl S22) rfl rfl ?_
    refine lV (yMul rfl rfl (by omega)) rfl rfl ?_
    refine lV (yAssign rfl) rfl rfl ?_
    refine lNil ?_
    refine kThen ?_
    refine kSeq ?_
    refine kRegion rfl ?_
    refine lV (yMove rfl) rfl rfl ?_
    refine lE rfl ?_
    refine eCallWM 0 rfl rfl (.c rfl .n) C65 (fun w hw hb => draw1_any nb nc a c l (k + 1 + 1) 6 w hb ⟨hw.blkAt 1 rfl, hd.s.eff hw (mne ho.na ho.nc)⟩ ho (by omega) (by omega)) ?_
    obtain ⟨d5, ed5, bd5⟩ : ∃ d, drawI l (k + 1 + 1 + 1) 6 = d ∧ 0 ≤ d ∧ d < 6 := ⟨_, rfl, draw_bd _ _ (by omega)⟩
    rw [ed5]
    refine lV (yAdd rfl rfl (by omega)) rfl rfl ?_
    refine lV (yMove rfl) rfl rfl ?_
    refine lV (yMove rfl) rfl rfl ?_
    refine lV (yMove rfl) rfl rfl ?_
    refine lE rfl ?_
    refine eCallWM 0 rfl rfl (.c rfl .n) C65 (fun w hw hb => draw1_any nb nc a c l (k + 1 + 1 + 1) (es.length * 1000) w hb ⟨hw.blkAt 1 rfl, hd.s.eff hw (mne ho.na ho.nc)⟩ ho (by omega) (by omega)) ?_
    obtain ⟨d6, ed6, bd6⟩ : ∃ d, drawI l (k + 1 + 1 + 1 + 1) (es.length * 1000) = d ∧ 0 ≤ d ∧ d < (es.length * 1000) := ⟨_, rfl, draw_bd _ _ (by omega)⟩
    rw [ed6]
    refine lV (yQuo rfl rfl (by omega) (by omega) (by omega)) rfl rfl ?_
    refine lV (yAdd rfl rfl (by omega)) rfl rfl ?_
    refine lV (yFieldAddr rfl F29_1) rfl rfl ?_
    refine lE rfl ?_
    refine eStoreL 0 rfl rfl rfl rfl K3 rfl (rfl) ?_
    refine lV (yAssign rfl) rfl rfl ?_
    refine lNil ?_
    refine kThen ?_
    refine kSeq ?_
    refine kRegion rfl ?_
    refine lV (yMove rfl) rfl rfl ?_
    refine lV (yMove rfl) rfl rfl ?_
    refine lE rfl ?_
    refine eCallWM 0 rfl rfl (.c rfl .n) C65 (fun w hw hb => draw1_any nb nc a c l (k + 1 + 1 + 1 + 1) 60 w hb ⟨hw.blkAt 1 rfl, hd.s.eff hw (mne ho.na ho.nc)⟩ ho (by omega) (by omega)) ?_
    obtain ⟨d7, ed7, bd7⟩ : ∃ d, drawI l (k + 1 + 1 + 1 + 1 + 1) 60 = d ∧ 0 ≤ d ∧ d < 60 := ⟨_, rfl, draw_bd _ _ (by omega)⟩
    rw [ed7]
    refine lV (ySub rfl rfl (by omega)) rfl rfl ?_
    refine lV (yMax rfl rfl) rfl rfl ?_
    refine lV (yMove rfl) rfl rfl ?_
    refine lV (yMove rfl) rfl rfl ?_
    refine lE rfl ?_
    refine eCallWM 0 rfl rfl (.c rfl .n) C65 (fun w hw hb => draw1_any nb nc a c l (k + 1 + 1 + 1 + 1 + 1) 60 w hb ⟨hw.blkAt 1 rfl, hd.s.eff hw (mne ho.na ho.nc)⟩ ho (by omega) (by omega)) ?_
    obtain ⟨d8, ed8, bd8⟩ : ∃ d, drawI l (k + 1 + 1 + 1 + 1 + 1 + 1) 60 = d ∧ 0 ≤ d ∧ d < 60 := ⟨_, rfl, draw_bd _ _ (by omega)⟩
    rw [ed8]
    refine lV (yAdd rfl rfl (by omega)) rfl rfl ?_
    refine lV (yMin rfl rfl) rfl rfl ?_
    refine lV (yCall rfl (.c rfl (.c rfl .n)) C30 (fun w hw => spanL_any _ _ w)) rfl rfl ?_
    refine lV (yFieldAddr rfl F29_2) rfl rfl ?_
    refine lE rfl ?_
    refine eStoreL 0 rfl rfl rfl rfl K24 rfl (rfl) ?_
    refine lNil ?_
    obtain ⟨sum, hsum⟩ : ∃ s : Int, es.length * 1000 + d6 / 2 = s := ⟨_, rfl⟩
    rw [hsum]
    have hsb : 5000 ≤ sum ∧ sum ≤ 21000 := by omega
    refine kThen ?_
    refine kSeq ?_
    refine kSeq ?_
    refine kRegion rfl ?_
    refine lV (yFieldAddr rfl F29_1) rfl rfl ?_
    refine lV (yLoad1 rfl O3 (cOwn 2 rfl rfl)) rfl rfl ?_
    refine lV (yMove rfl) rfl rfl ?_
    refine lNil ?_
    refine kThen ?_
    refine kBlock ?_
    refine kLoopX (ι := Nat × Nat × Own × List Int) (fun x => (x.1 : Int) ≤ 1 + d5 ∧ x.2.1 ≤ 40 + x.1 ∧ x.2.2.2.length = x.1 ∧ (∀ v ∈ x.2.2.2, -100000 ≤ v ∧ v ≤ 100000) ∧ OS 1 x.2.2.1 (x.2.2.2.map rowV)) (fun x => [(71, i64 (x.1 : Nat)), (4, osV x.2.2.1 (x.2.2.2.map rowV).length)]) [(0, _), (2, _), (3, _), (12, _), (13, _), (14, _), (15, _), (16, _), (34, _), (35, _), (36, _), (37, _), (38, _), (39, _), (40, _), (41, _), (42, _), (43, _), (44, _), (45, _), (46, _), (6, _), (47, _), (48, _), (49, _), (50, _), (51, _), (52, _), (53, _), (54, _), (55, _), (56, _), (57, _), (58, _), (59, _), (60, _), (61, _), (62, _), (63, _), (64, _), (65, _), (66, _), (67, _), (68, _), (69, _), (70, _)] (fun x => [(nb, blk [i64 (x.2.1 : Nat)] 3), (nc, blk [.slice a l.length c] 40)]) (fun x => osL 3 x.2.2.1) [(n2, _), (nE, _)] (fun x => (1 + d5).toNat - x.1) (0, k + 1 + 1 + 1 + 1 + 1 + 1, .e none, []) (⟨by dsimp only; omega, by dsimp only; omega, rfl, by simp, OS.empty⟩) rfl (.c rfl (.c rfl .n)) (.c rfl (.c rfl (.c rfl (.c rfl (.c rfl (.c rfl (.c rfl (.c rfl (.c rfl (.c rfl (.c rfl (.c rfl (.c rfl (.c rfl (.c rfl (.c rfl (.c rfl (.c rfl (.c rfl (.c rfl (.c rfl (.c rfl (.c rfl (.c rfl (.c rfl (.c rfl (.c rfl (.c rfl (.c rfl (.c rfl (.c rfl (.c rfl (.c rfl (.c rfl (.c rfl (.c rfl (.c rfl (.c rfl (.c rfl (.c rfl (.c rfl (.c rfl (.c rfl (.c rfl (.c rfl (.c rfl .n)))))))))))))))))))))))))))))))))))))))))))))) (.c 0 rfl (.c 0 rfl .n)) ?_
    rintro ⟨j, k2, g2, ps⟩ ⟨hj, hk3, hps, hpb, hg2⟩
    dsimp only at hj hk3 hps hpb hg2 ⊢
    refine kSeq ?_
    refine kRegion rfl ?_
    refine lV (yLss rfl rfl) rfl rfl ?_
    refine lNil ?_
    refine kThen ?_
    refine kSeq ?_
    refine split (t := 72) rfl (fun h72 => ?_) (fun h72 => ?_)
    · refine kIfT rfl ?_
      refine kSkip ?_
      refine kThen ?_
      refine kSeq ?_
      refine kBlock ?_
      refine kRegion rfl ?_
      refine lV (yMove rfl) rfl rfl ?_
      refine lV (yMove rfl) rfl rfl ?_
      refine lV (yQuo rfl rfl (by omega) (by omega) (by omega)) rfl rfl ?_
      refine lV (yMove rfl) rfl rfl ?_
      refine lE rfl ?_
      refine eCallWM 0 rfl rfl (.c rfl .n) C65 (fun w hw hb => draw1_any nb nc a c l k2 800 w hb ⟨hw.blkAt 1 rfl, hd.s.eff hw (mne ho.na ho.nc)⟩ ho (by omega) (by omega)) ?_
      obtain ⟨d9, ed9, bd9⟩ : ∃ d, drawI l (k2 + 1) 800 = d ∧ 0 ≤ d ∧ d < 800 := ⟨_, rfl, draw_bd _ _ (by omega)⟩
      rw [ed9]
      refine lV (yAdd rfl rfl (by omega)) rfl rfl ?_
      refine lV (ySub rfl rfl (by omega)) rfl rfl ?_
      refine lE rfl ?_
      refine eBuildSlice (.c rfl .n) (fun w => BS41_1_0 w) fun n80 => ?_
      refine lE rfl ?_
      refine eAppend (gs := g2) [(n80, _), (n2, _), (nE, _)] [rowV (sum / 2 + d9 - 400)] AP41 rfl rfl .r hg2 rfl (by simp) (SlN.own 2 rfl rfl) (by simp; rfl) (by simp; omega) (by simp; omega) fun h2 hh2 => ?_
      refine same (t := 81) (u := osV h2 (List.map rowV (ps ++ [sum / 2 + d9 - 400])).length) rfl (by rw [List.map_append]; rfl) ?_
      refine lV (yAssign rfl) rfl rfl ?_
      refine lNil ?_
      refine kInN ?_
      refine kThen ?_
      refine kRegion rfl ?_
      refine lV (yAdd rfl rfl (by omega)) rfl rfl ?_
      refine lV (yMove rfl) rfl rfl ?_
      refine lNil ?_
      exact kRoundX (j + 1, k2 + 1, h2, ps ++ [sum / 2 + d9 - 400]) (⟨by dsimp only; omega, by dsimp only; omega, by simp; omega, fun e he => by rcases List.mem_append.1 he with he | he; (· exact hpb e he); (simp only [List.mem_singleton] at he; subst he; exact ⟨by omega, by omega⟩), by dsimp only; rw [List.map_append]; exact hh2⟩) (by dsimp only; omega) rfl (.c rfl (.c rfl .n)) (.c rfl (.c rfl (.c rfl (.c rfl (.c rfl (.c rfl (.c rfl (.c rfl (.c rfl (.c rfl (.c rfl (.c rfl (.c rfl (.c rfl (.c rfl (.c rfl (.c rfl (.c rfl (.c rfl (.c rfl (.c rfl (.c rfl (.c rfl (.c rfl (.c rfl (.c rfl (.c rfl (.c rfl (.c rfl (.c rfl (.c rfl (.c rfl (.c rfl (.c rfl (.c rfl (.c rfl (.c rfl (.c rfl (.c rfl (.c rfl (.c rfl (.c rfl (.c rfl (.c rfl (.c rfl (.c rfl .n)))))))))))))))))))))))))))))))))))))))))))))) (.c 1 rfl (.c 1 rfl (.d 0 .r)))
    · refine kIfF rfl ?_
      refine kExit ?_
      refine kThenX ?_
      refine kThenX ?_
      refine kInX ?_
      refine kThen ?_
      refine kSeq ?_
      refine kSeq ?_
      obtain ⟨nP, cP, vP, rfl⟩ := own_b hg2 (by intro h; have := congrArg List.length h; simp at this; rw [this] at hps; simp at hps; omega)
      rw [List.length_map]
      have hbase : Base es (-d3, d4) (1 + d5) (max 0 (sum - d7), min 131072 (sum + d8)) sum ps := ⟨hlen, hel, by dsimp only; omega, by omega, by dsimp only; omega, by omega, by omega, hpb⟩
      refine kRegion rfl ?_
      refine lV (yMove rfl) rfl rfl ?_
      refine lE rfl ?_
      refine eCallWM 0 rfl rfl (.c rfl .n) C65 (fun w hw hb => draw1_any nb nc a c l k2 13 w hb ⟨hw.blkAt 1 rfl, hd.s.eff hw (mne ho.na ho.nc)⟩ ho (by omega) (by omega)) ?_
      obtain ⟨d10, ed10, bd10⟩ : ∃ d, drawI l (k2 + 1) 13 = d ∧ 0 ≤ d ∧ d < 13 := ⟨_, rfl, draw_bd _ _ (by omega)⟩
      rw [ed10]
      refine lV (yMove rfl) rfl rfl ?_
      refine lNil ?_
      refine kThen ?_
      refine kBlock ?_
      refine kLoopX (ι := Nat × Nat × Own × List (Int × Int × Bool)) (fun x => (x.1 : Int) ≤ d10 ∧ x.2.1 ≤ 60 + 4 * x.1 ∧ x.2.2.2.length ≤ x.1 ∧ (∀ s ∈ x.2.2.2, good ⟨es, (-d3, d4), 1 + d5, (max 0 (sum - d7), min 131072 (sum + d8)), []⟩ sum ps s) ∧ OS 3 x.2.2.1 (x.2.2.2.map rowS)) (fun x => [(85, i64 (x.1 : Nat))]) [(0, _), (2, _), (3, _), (12, _), (13, _), (14, _), (15, _), (16, _), (34, _), (35, _), (36, _), (37, _), (38, _), (39, _), (40, _), (41, _), (42, _), (43, _), (44, _), (45, _), (46, _), (6, _), (47, _), (48, _), (49, _), (50, _), (51, _), (52, _), (53, _), (54, _), (55, _), (56, _), (57, _), (58, _), (59, _), (60, _), (61, _), (62, _), (63, _), (64, _), (65, _), (66, _), (67, _), (68, _), (69, _), (70, _), (71, _), (4, _), (72, _), (83, _), (84, _)] (fun x => [(nb, blk [i64 (x.2.1 : Nat)] 3), (nc, blk [.slice a l.length c] 40)]) (fun x => ([(n2, blk [.slice (some ⟨nE, 0, none⟩) es.length cE, i64 (-d3), i64 d4, i64 (1 + d5), i64 (max 0 (sum - d7)), i64 (min 131072 (sum + d8)), osV x.2.2.1 (x.2.2.2.map rowS).length] 29)] ++ osL 49 x.2.2.1)) [(nE, _), (nP, _)] (fun x => d10.toNat - x.1) (0, k2 + 1, .e none, []) (⟨by dsimp only; omega, by dsimp only; omega, by simp, by simp, OS.empty⟩) rfl (.c rfl .n) (.c rfl (.c rfl (.c rfl (.c rfl (.c rfl (.c rfl (.c rfl (.c rfl (.c rfl (.c rfl (.c rfl (.c rfl (.c rfl (.c rfl (.c rfl (.c rfl (.c rfl (.c rfl (.c rfl (.c rfl (.c rfl (.c rfl (.c rfl (.c rfl (.c rfl (.c rfl (.c rfl (.c rfl (.c rfl (.c rfl (.c rfl (.c rfl (.c rfl (.c rfl (.c rfl (.c rfl (.c rfl (.c rfl (.c rfl (.c rfl (.c rfl (.c rfl (.c rfl (.c rfl (.c rfl (.c rfl (.c rfl (.c rfl (.c rfl (.c rfl (.c rfl .n))))))))))))))))))))))))))))))))))))))))))))))))))) (.c 1 rfl (.c 1 rfl (.c 0 rfl .n))) ?_
      rintro ⟨i2, k3, g3, ls⟩ ⟨hi2, hk4, hls, hgd, hg3⟩
      dsimp only at hi2 hk4 hls hgd hg3 ⊢
      refine kSeq ?_
      refine kRegion rfl ?_
      refine lV (yLss rfl rfl) rfl rfl ?_
      refine lNil ?_
      refine kThen ?_
      refine kSeq ?_
      refine split (t := 86) rfl (fun h86 => ?_) (fun h86 => ?_)
      · refine kIfT rfl ?_
        refine kSkip ?_
        refine kThen ?_
        refine kSeq ?_
        refine kBlock ?_
        refine kSeq ?_
        refine kRegion rfl ?_
        refine lV (yMove rfl) rfl rfl ?_
        refine lV (yFieldAddr rfl F29_1) rfl rfl ?_
        refine lV (yLoad1 rfl O3 (cOwn 4 rfl rfl)) rfl rfl ?_
        refine lE rfl ?_
        refine eCallWM 0 rfl rfl (.c rfl .n) C65 (fun w hw hb => draw1_any nb nc a c l k3 (1 + d5) w hb ⟨hw.blkAt 1 rfl, hd.s.eff hw (mne ho.na ho.nc)⟩ ho (by omega) (by omega)) ?_
        obtain ⟨d11, ed11, bd11⟩ : ∃ d, drawI l (k3 + 1) (1 + d5) = d ∧ 0 ≤ d ∧ d < (1 + d5) := ⟨_, rfl, draw_bd _ _ (by omega)⟩
        rw [ed11]
        refine lV (yMove rfl) rfl rfl ?_
        refine lE rfl ?_
        refine eCallWM 0 rfl rfl (.c rfl .n) C65 (fun w hw hb => draw1_any nb nc a c l (k3 + 1) 2 w hb ⟨hw.blkAt 1 rfl, hd.s.eff hw (mne ho.na ho.nc)⟩ ho (by omega) (by omega)) ?_
        obtain ⟨d12, ed12, bd12⟩ : ∃ d, drawI l (k3 + 1 + 1) 2 = d ∧ 0 ≤ d ∧ d < 2 := ⟨_, rfl, draw_bd _ _ (by omega)⟩
        rw [ed12]
        refine lV (yEql rfl rfl) rfl rfl ?_
        refine lV (yBuild (.c rfl (.c rfl .n)) (fun w => B49_0_2 w)) rfl rfl ?_
        refine lE rfl ?_
        refine eAlloc Z49 fun n7 => ?_
        refine lE rfl ?_
        refine eStoreL 0 rfl rfl rfl rfl K49 rfl (rfl) ?_
        refine lNil ?_
        obtain ⟨rv, hrv⟩ : ∃ b, decide (d12 = 0) = b := ⟨_, rfl⟩
        rw [hrv]
        refine kThen ?_
        refine kSeq ?_
        refine kRegion rfl ?_
        refine lV (yMove rfl) rfl rfl ?_
        refine lV (yFieldAddr rfl F49_0) rfl rfl ?_
        refine lV (yLoad1 rfl O3 (cOwn 2 rfl rfl)) rfl rfl ?_
        refine same (t := 97) (u := i64 ((d11.toNat : Nat) : Int)) rfl (by congr 1; omega) ?_
        refine lV (yIndexS  rfl rfl S41 (fun w hw => OS.rowsE (f := rowV) 0 hg2 hw (.c 2 rfl .n)) (by omega)) rfl rfl ?_
        refine lV (yLoad1 rfl O3 (cSl0 (fun w hw => OS.rowsE (f := rowV) 0 hg2 hw (.c 2 rfl .n)) (by omega) rfl)) rfl rfl ?_
        refine lV (yAssign rfl) rfl rfl ?_
        refine lNil ?_
        obtain ⟨pl, hpl⟩ : ∃ v : Int, ps.getD d11.toNat 0 = v := ⟨_, rfl⟩
        have hplb := hpb _ (getD_mem (l := ps) (i := d11.toNat) (by omega) 0)
        rw [hpl] at hplb
        rw [hpl]
        refine kThen ?_
        refine kSeq ?_
        refine kSeq ?_
        refine kRegion rfl ?_
        refine lV (yFieldAddr rfl F49_2) rfl rfl ?_
        refine lV (yLoad1 rfl O4 (cOwn 2 rfl rfl)) rfl rfl ?_
        refine lNil ?_
        refine kThen ?_
        refine splitB (t := 101) rfl (fun h101 => ?_) (fun h101 => ?_)
        · refine kIfT rfl ?_
          refine kRegion rfl ?_
          refine lV (yMove rfl) rfl rfl ?_
          refine lV (yMove rfl) rfl rfl ?_
          refine lV (ySub rfl rfl (by omega)) rfl rfl ?_
          refine lV (yAssign rfl) rfl rfl ?_
          refine lNil ?_
          obtain ⟨xx, hxx⟩ : ∃ v : Int, sum - pl = v := ⟨_, rfl⟩
          rw [hxx]
          have hx2 : (if rv = true then sum - ps.getD d11.toNat 0 else ps.getD d11.toNat 0) = xx := by rw [if_pos h101, hpl, hxx]
          refine kThen ?_
          refine kSeq ?_
          have hb13 := draw_bd l (k3 + 1 + 1 + 1) (n := d4 - -d3 + 1) (by omega)
          refine kDrawE [(8, none), (12, none)] [(3, (fun w => w.heap[n2]? = some (blk [.slice (some ⟨nE, 0, none⟩) es.length cE, i64 (-d3), i64 d4, i64 (1 + d5), i64 (max 0 (sum - d7)), i64 (min 131072 (sum + d8)), osV g3 (ls.map rowS).length] 29)))] [0, 1, 2, 3, 4, 5, 6, 7, 8, 9, 10, 11, 12, 13, 14] 3 hMix (by kernel_rfl) ?_
          refine .run rfl (yFieldAddr rfl F29_0) rfl rfl ?_
          refine .run rfl (yFieldAddr rfl F26_1) rfl rfl ?_
          refine .run rfl (yFieldAddr rfl F24_0) rfl rfl ?_
          refine .run rfl (yLoad1 rfl O3 (cHeap rfl)) rfl rfl ?_
          refine .run rfl (yMove rfl) rfl rfl ?_
          refine .run rfl (yFieldAddr rfl F29_0) rfl rfl ?_
          refine .run rfl (yFieldAddr rfl F26_1) rfl rfl ?_
          refine .run rfl (yFieldAddr rfl F24_1) rfl rfl ?_
          refine .run rfl (yLoad1 rfl O3 (cOwn 5 rfl rfl)) rfl rfl ?_
          refine .run rfl (yFieldAddr rfl F29_0) rfl rfl ?_
          refine .run rfl (yFieldAddr rfl F26_1) rfl rfl ?_
          refine .run rfl (yFieldAddr rfl F24_0) rfl rfl ?_
          refine .run rfl (yLoad1 rfl O3 (cOwn 5 rfl rfl)) rfl rfl ?_
          refine .run rfl (ySub rfl rfl (by omega)) rfl rfl ?_
          refine .run rfl (yAdd rfl rfl (by omega)) rfl rfl ?_
          refine .done ?_
          refine effStep 15 [] (by kernel_rfl) closedSt (hLeft [3, 8, 12] (by kernel_rfl) (.c (fun _ _ hs => hs.ef.blkAt 5 rfl) (.c (fun _ _ hs => hs.ef) (.c (fun _ _ hs => hs.ef) .n)))) ?_
          refine .c ?_ .n
          refine effOne rfl (gNone rfl (eCallWM 0 rfl rfl (.c rfl .n) C65 (fun w hw hb => draw1_any nb nc a c l (k3 + 1 + 1) (d4 - -d3 + 1) w hb ⟨hw.blkAt 1 rfl, hd.s.eff hw (mne ho.na ho.nc)⟩ ho (by omega) (by omega)) trSelf)) ?_
          refine effStep 16 [] (by kernel_rfl) closedSt (hLeft [3] (by kernel_rfl) (.c (fun _ _ hs => hs.ef.blkAt 5 rfl) .n)) ?_
          refine .c ?_ .n
          refine effOne rfl (gNone rfl (fV (yAdd rfl rfl (by omega)) rfl)) ?_
          refine effStep 17 [] (by kernel_rfl) closedSt (hLeft [] (by kernel_rfl) .n) ?_
          refine .c ?_ .n
          refine effOne rfl (gNone rfl (fV (yAssign rfl) rfl)) ?_
          refine effDone closedSt (hLeft [] (by kernel_rfl) .n) (by kernel_rfl) ?_
          refine kThen ?_
          refine kSeq ?_
          refine kRegion rfl ?_
          refine lV (yMove rfl) rfl rfl ?_
          refine lV (yMove rfl) rfl rfl ?_
          refine lV (ySub rfl rfl (by omega)) rfl rfl ?_
          refine lV (yAssign rfl) rfl rfl ?_
          refine lNil ?_
          obtain ⟨nn, hnn⟩ : ∃ v : Int, xx - (-d3 + drawI l (k3 + 1 + 1 + 1) (d4 - -d3 + 1)) = v := ⟨_, rfl⟩
          rw [hnn]
          refine kThen ?_
          refine kSeq ?_
          refine kSeq ?_
          refine kRegion rfl ?_
          refine lV (yMove rfl) rfl rfl ?_
          refine lV (yLss rfl rfl) rfl rfl ?_
          refine lV (yMove rfl) rfl rfl ?_
          refine split (t := 127) rfl (fun h127 => ?_) (fun h127 => ?_)
          · refine lGN rfl rfl rfl rfl rfl ?_
            refine lGN rfl rfl rfl rfl rfl ?_
            refine lGN rfl rfl rfl rfl rfl ?_
            refine lGN rfl rfl rfl rfl rfl ?_
            refine lV (yPickT rfl rfl) rfl rfl ?_
            refine lNil ?_
            refine kThen ?_
            refine kIfT rfl ?_
            refine kExit ?_
            refine kThenX ?_
            refine kInX ?_
            refine kThen ?_
            refine kRegion rfl ?_
            refine lV (yAdd rfl rfl (by omega)) rfl rfl ?_
            refine lV (yMove rfl) rfl rfl ?_
            refine lNil ?_
            exact kRoundX (i2 + 1, k3 + 1 + 1 + 1, g3, ls) (⟨by dsimp only; omega, by dsimp only; omega, by dsimp only; omega, hgd, hg3⟩) (by dsimp only; omega) rfl (.c rfl .n) (.c rfl (.c rfl (.c rfl (.c rfl (.c rfl (.c rfl (.c rfl (.c rfl (.c rfl (.c rfl (.c rfl (.c rfl (.c rfl (.c rfl (.c rfl (.c rfl (.c rfl (.c rfl (.c rfl (.c rfl (.c rfl (.c rfl (.c rfl (.c rfl (.c rfl (.c rfl (.c rfl (.c rfl (.c rfl (.c rfl (.c rfl (.c rfl (.c rfl (.c rfl (.c rfl (.c rfl (.c rfl (.c rfl (.c rfl (.c rfl (.c rfl (.c rfl (.c rfl (.c rfl (.c rfl (.c rfl (.c rfl (.c rfl (.c rfl (.c rfl (.c rfl .n))))))))))))))))))))))))))))))))))))))))))))))))))) (.c 1 rfl (.c 1 rfl (.c 1 rfl (.d 0 .r))))
          · refine lGY rfl rfl rfl (oV (yMove rfl) rfl ?_)
            refine lGY rfl rfl rfl (oV (yMove rfl) rfl ?_)
            refine lGY rfl rfl rfl (oV (ySub rfl rfl (by omega)) rfl ?_)
            refine lGY rfl rfl rfl (oV (yGeq rfl rfl) rfl ?_)
            refine lV (yPickF rfl rfl) rfl rfl ?_
            refine lNil ?_
            refine kThen ?_
            refine split (t := 132) rfl (fun h132 => ?_) (fun h132 => ?_)
            · refine kIfT rfl ?_
              refine kExit ?_
              refine kThenX ?_
              refine kInX ?_
              refine kThen ?_
              refine kRegion rfl ?_
              refine lV (yAdd rfl rfl (by omega)) rfl rfl ?_
              refine lV (yMove rfl) rfl rfl ?_
              refine lNil ?_
              exact kRoundX (i2 + 1, k3 + 1 + 1 + 1, g3, ls) (⟨by dsimp only; omega, by dsimp only; omega, by dsimp only; omega, hgd, hg3⟩) (by dsimp only; omega) rfl (.c rfl .n) (.c rfl (.c rfl (.c rfl (.c rfl (.c rfl (.c rfl (.c rfl (.c rfl (.c rfl (.c rfl (.c rfl (.c rfl (.c rfl (.c rfl (.c rfl (.c rfl (.c rfl (.c rfl (.c rfl (.c rfl (.c rfl (.c rfl (.c rfl (.c rfl (.c rfl (.c rfl (.c rfl (.c rfl (.c rfl (.c rfl (.c rfl (.c rfl (.c rfl (.c rfl (.c rfl (.c rfl (.c rfl (.c rfl (.c rfl (.c rfl (.c rfl (.c rfl (.c rfl (.c rfl (.c rfl (.c rfl (.c rfl (.c rfl (.c rfl (.c rfl (.c rfl .n))))))))))))))))))))))))))))))))))))))))))))))))))) (.c 1 rfl (.c 1 rfl (.c 1 rfl (.d 0 .r))))
            · refine kIfF rfl ?_
              refine kSkip ?_
              refine kThen ?_
              refine kSeq ?_
              refine kRegion rfl ?_
              refine lV (yFieldAddr rfl F29_0) rfl rfl ?_
              refine lV (yFieldAddr rfl F26_0) rfl rfl ?_
              refine lV (yLoad1 rfl O22 (cOwn 5 rfl rfl)) rfl rfl ?_
              refine lV (yMove rfl) rfl rfl ?_
              refine lV (yQuo rfl rfl (by omega) (by omega) (by omega)) rfl rfl ?_
              refine same (t := 137) (u := i64 (((nn / 1000).toNat : Nat) : Int)) rfl (by congr 1; omega) ?_
              refine lV (yIndexS  rfl rfl S22 (fun w hw => OS.rowsE (f := rowE) (0, 0) hg hw (.c 1 rfl .n)) (by omega)) rfl rfl ?_
              refine lV (yLoadA (vs := [_, _]) rfl A24 (cSl0 (fun w hw => OS.rowsE (f := rowE) (0, 0) hg hw (.c 1 rfl .n)) (by omega) rfl)) rfl rfl ?_
              refine lE rfl ?_
              refine eAlloc Z24 fun n11 => ?_
              refine lE rfl ?_
              refine eStoreL 0 rfl rfl rfl rfl K24 rfl (rfl) ?_
              refine lNil ?_
              have hbe := hel _ (getD_mem (l := es) (i := (nn / 1000).toNat) (by omega) (0, 0))
              have hb14 := draw_bd l (k3 + 1 + 1 + 1 + 1) (n := (es.getD (nn / 1000).toNat (0, 0)).2 - (es.getD (nn / 1000).toNat (0, 0)).1 + 1) (by omega)
              refine kThen ?_
              refine kSeq ?_
              refine kDrawE [(6, none), (8, none)] [(2, (fun w => w.heap[n11]? = some (blk [i64 (es.getD (nn / 1000).toNat (0, 0)).1, i64 (es.getD (nn / 1000).toNat (0, 0)).2] 24)))] [0, 1, 2, 3, 4, 5, 6, 7, 8, 9, 10, 13] 3 hMix (by kernel_rfl) ?_
              refine .run rfl (yMove rfl) rfl rfl ?_
              refine .run rfl (yFieldAddr rfl F24_0) rfl rfl ?_
              refine .run rfl (yLoad1 rfl O3 (cHeap rfl)) rfl rfl ?_
              refine .run rfl (ySub rfl rfl (by omega)) rfl rfl ?_
              refine .run rfl (yMove rfl) rfl rfl ?_
              refine .run rfl (yFieldAddr rfl F24_1) rfl rfl ?_
              refine .run rfl (yLoad1 rfl O3 (cOwn 2 rfl rfl)) rfl rfl ?_
              refine .run rfl (yFieldAddr rfl F24_0) rfl rfl ?_
              refine .run rfl (yLoad1 rfl O3 (cOwn 2 rfl rfl)) rfl rfl ?_
              refine .run rfl (ySub rfl rfl (by omega)) rfl rfl ?_
              refine .run rfl (yAdd rfl rfl (by omega)) rfl rfl ?_
              refine .run rfl (yFieldAddr rfl F49_1) rfl rfl ?_
              refine .done ?_
              refine effStep 11 [] (by kernel_rfl) closedSt (hLeft [2, 6, 8] (by kernel_rfl) (.c (fun _ _ hs => hs.ef.blkAt 2 rfl) (.c (fun _ _ hs => hs.ef) (.c (fun _ _ hs => hs.ef) .n)))) ?_
              refine .c ?_ .n
              refine effOne rfl (gNone rfl (eCallWM 0 rfl rfl (.c rfl .n) C65 (fun w hw hb => draw1_any nb nc a c l (k3 + 1 + 1 + 1) ((es.getD (nn / 1000).toNat (0, 0)).2 - (es.getD (nn / 1000).toNat (0, 0)).1 + 1) w hb ⟨hw.blkAt 1 rfl, hd.s.eff hw (mne ho.na ho.nc)⟩ ho (by omega) (by omega)) trSelf)) ?_
              refine effStep 12 [] (by kernel_rfl) closedSt (hLeft [2] (by kernel_rfl) (.c (fun _ _ hs => hs.ef.blkAt 2 rfl) .n)) ?_
              refine .c ?_ .n
              refine effOne rfl (gNone rfl (fV (ySub rfl rfl (by omega)) rfl)) ?_
              refine effStep 14 [] (by kernel_rfl) closedSt (hLeft [] (by kernel_rfl) .n) ?_
              refine .c ?_ .n
              refine effOne rfl (gNone rfl (fStoreL 1 rfl rfl rfl rfl K3 rfl (rfl))) ?_
              refine effDone closedSt (hLeft [] (by kernel_rfl) .n) (by kernel_rfl) ?_
              obtain ⟨r, hr⟩ : ∃ v : Int, nn - (es.getD (nn / 1000).toNat (0, 0)).1 - drawI l (k3 + 1 + 1 + 1 + 1) ((es.getD (nn / 1000).toNat (0, 0)).2 - (es.getD (nn / 1000).toNat (0, 0)).1 + 1) = v := ⟨_, rfl⟩
              rw [hr]
              refine kThen ?_
              refine kSeq ?_
              refine kRegion rfl ?_
              refine lV (yFieldAddr rfl F49_1) rfl rfl ?_
              refine lV (yLoad1 rfl O3 (cOwn 3 rfl rfl)) rfl rfl ?_
              refine lV (yGeq rfl rfl) rfl rfl ?_
              refine lV (yMove rfl) rfl rfl ?_
              refine split (t := 157) rfl (fun h157 => ?_) (fun h157 => ?_)
              · refine lGY rfl rfl rfl (oV (yFieldAddr rfl F49_1) rfl ?_)
                refine lGY rfl rfl rfl (oV (yLoad1 rfl O3 (cOwn 3 rfl rfl)) rfl ?_)
                refine lGY rfl rfl rfl (oV (yMove rfl) rfl ?_)
                refine lGY rfl rfl rfl (oV (yLss rfl rfl) rfl ?_)
                refine lV (yPickT rfl rfl) rfl rfl ?_
                refine lV (yMove rfl) rfl rfl ?_
                refine split (t := 163) rfl (fun h163 => ?_) (fun h163 => ?_)
                · refine lGY rfl rfl rfl (oV (yFieldAddr rfl F49_1) rfl ?_)
                  refine lGY rfl rfl rfl (oV (yLoad1 rfl O3 (cOwn 3 rfl rfl)) rfl ?_)
                  refine lGY rfl rfl rfl (oV (yQuo rfl rfl (by omega) (by omega) (by omega)) rfl ?_)
                  refine lGY rfl rfl rfl (oV (yMove rfl) rfl ?_)
                  refine lGY rfl rfl rfl (oV (yQuo rfl rfl (by omega) (by omega) (by omega)) rfl ?_)
                  refine lGY rfl rfl rfl (oV (yEql rfl rfl) rfl ?_)
                  refine lV (yPickT rfl rfl) rfl rfl ?_
                  refine lNil ?_
                  refine kThen ?_
                  refine split (t := 170) rfl (fun h170 => ?_) (fun h170 => ?_)
                  · refine kIfT rfl ?_
                    have hgood : good ⟨es, (-d3, d4), 1 + d5, (max 0 (sum - d7), min 131072 (sum + d8)), []⟩ sum ps (d11, r, rv) := by
                      rw [← hr]
                      exact good_of (v := -d3 + drawI l (k3 + 1 + 1 + 1) (d4 - -d3 + 1)) (x := xx) ⟨by omega, by omega⟩ hx2 ⟨by dsimp only; omega, by dsimp only; omega⟩ hnn.symm ⟨hb14.1, by omega⟩ (by rw [hr]; omega) (by rw [hr]; omega) (by rw [hr]; exact h170)
                    refine kRegion rfl ?_
                    refine lV (yFieldAddr rfl F29_3) rfl rfl ?_
                    refine lV (yLoad1 rfl O27 (cOwn 6 rfl rfl)) rfl rfl ?_
                    refine lV (yLoadA (vs := [_, _, _]) rfl A49 (cOwn 3 rfl rfl)) rfl rfl ?_
                    refine lE rfl ?_
                    refine eBuildSlice (.c rfl .n) (fun w => BS27_1_0 w) fun n174 => ?_
                    refine lE rfl ?_
                    refine eAppend (gs := g3) [(n174, _), (n11, _), (n7, _), (nE, _), (nP, _), (n2, _)] [rowS (d11, r, rv)] AP27 rfl rfl .r hg3 rfl (rowsS_len [_]) (SlN.own 2 rfl rfl) (rowsS_one [_]) (by simp; omega) (by simp; omega) fun h3 hh3 => ?_
                    refine same (t := 175) (u := osV h3 (List.map rowS (ls ++ [(d11, r, rv)])).length) rfl (by rw [List.map_append]; rfl) ?_
                    refine lV (yFieldAddr rfl F29_3) rfl rfl ?_
                    refine lE rfl ?_
                    refine eStoreL 5 rfl rfl rfl rfl K27 rfl (rfl) ?_
                    refine lNil ?_
                    refine kInN ?_
                    refine kThen ?_
                    refine kRegion rfl ?_
                    refine lV (yAdd rfl rfl (by omega)) rfl rfl ?_
                    refine lV (yMove rfl) rfl rfl ?_
                    refine lNil ?_
                    exact kRoundX (i2 + 1, k3 + 1 + 1 + 1 + 1, h3, ls ++ [(d11, r, rv)]) (⟨by dsimp only; omega, by dsimp only; omega, by simp; omega, fun s hs => (List.mem_append.1 hs).elim (hgd s) fun hs => by simp only [List.mem_singleton] at hs; subst hs; exact hgood, by dsimp only; rw [List.map_append]; exact hh3⟩) (by dsimp only; omega) rfl (.c rfl .n) (.c rfl (.c rfl (.c rfl (.c rfl (.c rfl (.c rfl (.c rfl (.c rfl (.c rfl (.c rfl (.c rfl (.c rfl (.c rfl (.c rfl (.c rfl (.c rfl (.c rfl (.c rfl (.c rfl (.c rfl (.c rfl (.c rfl (.c rfl (.c rfl (.c rfl (.c rfl (.c rfl (.c rfl (.c rfl (.c rfl (.c rfl (.c rfl (.c rfl (.c rfl (.c rfl (.c rfl (.c rfl (.c rfl (.c rfl (.c rfl (.c rfl (.c rfl (.c rfl (.c rfl (.c rfl (.c rfl (.c rfl (.c rfl (.c rfl (.c rfl (.c rfl .n))))))))))))))))))))))))))))))))))))))))))))))))))) (.c 3 rfl (.c 3 rfl (.c 3 rfl (.d 0 (.d 0 (.d 0 .r))))))
                  · refine kIfF rfl ?_
                    refine kSkip ?_
                    refine kInN ?_
                    refine kThen ?_
                    refine kRegion rfl ?_
                    refine lV (yAdd rfl rfl (by omega)) rfl rfl ?_
                    refine lV (yMove rfl) rfl rfl ?_
                    refine lNil ?_
                    exact kRoundX (i2 + 1, k3 + 1 + 1 + 1 + 1, g3, ls) (⟨by dsimp only; omega, by dsimp only; omega, by dsimp only; omega, hgd, hg3⟩) (by dsimp only; omega) rfl (.c rfl .n) (.c rfl (.c rfl (.c rfl (.c rfl (.c rfl (.c rfl (.c rfl (.c rfl (.c rfl (.c rfl (.c rfl (.c rfl (.c rfl (.c rfl (.c rfl (.c rfl (.c rfl (.c rfl (.c rfl (.c rfl (.c rfl (.c rfl (.c rfl (.c rfl (.c rfl (.c rfl (.c rfl (.c rfl (.c rfl (.c rfl (.c rfl (.c rfl (.c rfl (.c rfl (.c rfl (.c rfl (.c rfl (.c rfl (.c rfl (.c rfl (.c rfl (.c rfl (.c rfl (.c rfl (.c rfl (.c rfl (.c rfl (.c rfl (.c rfl (.c rfl (.c rfl .n))))))))))))))))))))))))))))))))))))))))))))))))))) (.c 2 rfl (.c 2 rfl (.c 2 rfl (.d 0 (.d 0 .r)))))
                · refine lGN rfl rfl rfl rfl rfl ?_
                  refine lGN rfl rfl rfl rfl rfl ?_
                  refine lGN rfl rfl rfl rfl rfl ?_
                  refine lGN rfl rfl rfl rfl rfl ?_
                  refine lGN rfl rfl rfl rfl rfl ?_
                  refine lGN rfl rfl rfl rfl rfl ?_
                  refine lV (yPickF rfl rfl) rfl rfl ?_
                  refine lNil ?_
                  refine kThen ?_
                  refine kIfF rfl ?_
                  refine kSkip ?_
                  refine kInN ?_
                  refine kThen ?_
                  refine kRegion rfl ?_
                  refine lV (yAdd rfl rfl (by omega)) rfl rfl ?_
                  refine lV (yMove rfl) rfl rfl ?_
                  refine lNil ?_
                  exact kRoundX (i2 + 1, k3 + 1 + 1 + 1 + 1, g3, ls) (⟨by dsimp only; omega, by dsimp only; omega, by dsimp only; omega, hgd, hg3⟩) (by dsimp only; omega) rfl (.c rfl .n) (.c rfl (.c rfl (.c rfl (.c rfl (.c rfl (.c rfl (.c rfl (.c rfl (.c rfl (.c rfl (.c rfl (.c rfl (.c rfl (.c rfl (.c rfl (.c rfl (.c rfl (.c rfl (.c rfl (.c rfl (.c rfl (.c rfl (.c rfl (.c rfl (.c rfl (.c rfl (.c rfl (.c rfl (.c rfl (.c rfl (.c rfl (.c rfl (.c rfl (.c rfl (.c rfl (.c rfl (.c rfl (.c rfl (.c rfl (.c rfl (.c rfl (.c rfl (.c rfl (.c rfl (.c rfl (.c rfl (.c rfl (.c rfl (.c rfl (.c rfl (.c rfl .n))))))))))))))))))))))))))))))))))))))))))))))))))) (.c 2 rfl (.c 2 rfl (.c 2 rfl (.d 0 (.d 0 .r)))))
              · refine lGN rfl rfl rfl rfl rfl ?_
                refine lGN rfl rfl rfl rfl rfl ?_
                refine lGN rfl rfl rfl rfl rfl ?_
                refine lGN rfl rfl rfl rfl rfl ?_
                refine lV (yPickF rfl rfl) rfl rfl ?_
                refine lV (yMove rfl) rfl rfl ?_
                refine lGN rfl rfl rfl rfl rfl ?_
                refine lGN rfl rfl rfl rfl rfl ?_
                refine lGN rfl rfl rfl rfl rfl ?_
                refine lGN rfl rfl rfl rfl rfl ?_
                refine lGN rfl rfl rfl rfl rfl ?_
                refine lGN rfl rfl rfl rfl rfl ?_
                refine lV (yPickF rfl rfl) rfl rfl ?_
                refine lNil ?_
                refine kThen ?_
                refine kIfF rfl ?_
                refine kSkip ?_
                refine kInN ?_
                refine kThen ?_
                refine kRegion rfl ?_
                refine lV (yAdd rfl rfl (by omega)) rfl rfl ?_
                refine lV (yMove rfl) rfl rfl ?_
                refine lNil ?_
                exact kRoundX (i2 + 1, k3 + 1 + 1 + 1 + 1, g3, ls) (⟨by dsimp only; omega, by dsimp only; omega, by dsimp only; omega, hgd, hg3⟩) (by dsimp only; omega) rfl (.c rfl .n) (.c rfl (.c rfl (.c rfl (.c rfl (.c rfl (.c rfl (.c rfl (.c rfl (.c rfl (.c rfl (.c rfl (.c rfl (.c rfl (.c rfl (.c rfl (.c rfl (.c rfl (.c rfl (.c rfl (.c rfl (.c rfl (.c rfl (.c rfl (.c rfl (.c rfl (.c rfl (.c rfl (.c rfl (.c rfl (.c rfl (.c rfl (.c rfl (.c rfl (.c rfl (.c rfl (.c rfl (.c rfl (.c rfl (.c rfl (.c rfl (.c rfl (.c rfl (.c rfl (.c rfl (.c rfl (.c rfl (.c rfl (.c rfl (.c rfl (.c rfl (.c rfl .n))))))))))))))))))))))))))))))))))))))))))))))))))) (.c 2 rfl (.c 2 rfl (.c 2 rfl (.d 0 (.d 0 .r)))))
        · refine kIfF rfl ?_
          refine kSkip ?_
          refine kThen ?_
          refine kSeq ?_
          obtain ⟨xx, hxx⟩ : ∃ v : Int, pl = v := ⟨_, rfl⟩
          rw [hxx]
          have hx2 : (if rv = true then sum - ps.getD d11.toNat 0 else ps.getD d11.toNat 0) = xx := by rw [if_neg (by rw [h101]; decide), hpl, hxx]
          have hb13 := draw_bd l (k3 + 1 + 1 + 1) (n := d4 - -d3 + 1) (by omega)
          refine kDrawE [(8, none), (12, none)] [(3, (fun w => w.heap[n2]? = some (blk [.slice (some ⟨nE, 0, none⟩) es.length cE, i64 (-d3), i64 d4, i64 (1 + d5), i64 (max 0 (sum - d7)), i64 (min 131072 (sum + d8)), osV g3 (ls.map rowS).length] 29)))] [0, 1, 2, 3, 4, 5, 6, 7, 8, 9, 10, 11, 12, 13, 14] 3 hMix (by kernel_rfl) ?_
          refine .run rfl (yFieldAddr rfl F29_0) rfl rfl ?_
          refine .run rfl (yFieldAddr rfl F26_1) rfl rfl ?_
          refine .run rfl (yFieldAddr rfl F24_0) rfl rfl ?_
          refine .run rfl (yLoad1 rfl O3 (cHeap rfl)) rfl rfl ?_
          refine .run rfl (yMove rfl) rfl rfl ?_
          refine .run rfl (yFieldAddr rfl F29_0) rfl rfl ?_
          refine .run rfl (yFieldAddr rfl F26_1) rfl rfl ?_
          refine .run rfl (yFieldAddr rfl F24_1) rfl rfl ?_
          refine .run rfl (yLoad1 rfl O3 (cOwn 5 rfl rfl)) rfl rfl ?_
          refine .run rfl (yFieldAddr rfl F29_0) rfl rfl ?_
          refine .run rfl (yFieldAddr rfl F26_1) rfl rfl ?_
          refine .run rfl (yFieldAddr rfl F24_0) rfl rfl ?_
          refine .run rfl (yLoad1 rfl O3 (cOwn 5 rfl rfl)) rfl rfl ?_
          refine .run rfl (ySub rfl rfl (by omega)) rfl rfl ?_
          refine .run rfl (yAdd rfl rfl (by omega)) rfl rfl ?_
          refine .done ?_
          refine effStep 15 [] (by kernel_rfl) closedSt (hLeft [3, 8, 12] (by kernel_rfl) (.c (fun _ _ hs => hs.ef.blkAt 5 rfl) (.c (fun _ _ hs => hs.ef) (.c (fun _ _ hs => hs.ef) .n)))) ?_
          refine .c ?_ .n
          refine effOne rfl (gNone rfl (eCallWM 0 rfl rfl (.c rfl .n) C65 (fun w hw hb => draw1_any nb nc a c l (k3 + 1 + 1) (d4 - -d3 + 1) w hb ⟨hw.blkAt 1 rfl, hd.s.eff hw (mne ho.na ho.nc)⟩ ho (by omega) (by omega)) trSelf)) ?_
          refine effStep 16 [] (by kernel_rfl) closedSt (hLeft [3] (by kernel_rfl) (.c (fun _ _ hs => hs.ef.blkAt 5 rfl) .n)) ?_
          refine .c ?_ .n
          refine effOne rfl (gNone rfl (fV (yAdd rfl rfl (by omega)) rfl)) ?_
          refine effStep 17 [] (by kernel_rfl) closedSt (hLeft [] (by kernel_rfl) .n) ?_
          refine .c ?_ .n
          refine effOne rfl (gNone rfl (fV (yAssign rfl) rfl)) ?_
          refine effDone closedSt (hLeft [] (by kernel_rfl) .n) (by kernel_rfl) ?_
          refine kThen ?_
          refine kSeq ?_
          refine kRegion rfl ?_
          refine lV (yMove rfl) rfl rfl ?_
          refine lV (yMove rfl) rfl rfl ?_
          refine lV (ySub rfl rfl (by omega)) rfl rfl ?_
          refine lV (yAssign rfl) rfl rfl ?_
          refine lNil ?_
          obtain ⟨nn, hnn⟩ : ∃ v : Int, xx - (-d3 + drawI l (k3 + 1 + 1 + 1) (d4 - -d3 + 1)) = v := ⟨_, rfl⟩
          rw [hnn]
          refine kThen ?_
          refine kSeq ?_
          refine kSeq ?_
          refine kRegion rfl ?_
          refine lV (yMove rfl) rfl rfl ?_
          refine lV (yLss rfl rfl) rfl rfl ?_
          refine lV (yMove rfl) rfl rfl ?_
          refine split (t := 127) rfl (fun h127 => ?_) (fun h127 => ?_)
          · refine lGN rfl rfl rfl rfl rfl ?_
            refine lGN rfl rfl rfl rfl rfl ?_
            refine lGN rfl rfl rfl rfl rfl ?_
            refine lGN rfl rfl rfl rfl rfl ?_
            refine lV (yPickT rfl rfl) rfl rfl ?_
            refine lNil ?_
            refine kThen ?_
            refine kIfT rfl ?_
            refine kExit ?_
            refine kThenX ?_
            refine kInX ?_
            refine kThen ?_
            refine kRegion rfl ?_
            refine lV (yAdd rfl rfl (by omega)) rfl rfl ?_
            refine lV (yMove rfl) rfl rfl ?_
            refine lNil ?_
            exact kRoundX (i2 + 1, k3 + 1 + 1 + 1, g3, ls) (⟨by dsimp only; omega, by dsimp only; omega, by dsimp only; omega, hgd, hg3⟩) (by dsimp only; omega) rfl (.c rfl .n) (.c rfl (.c rfl (.c rfl (.c rfl (.c rfl (.c rfl (.c rfl (.c rfl (.c rfl (.c rfl (.c rfl (.c rfl (.c rfl (.c rfl (.c rfl (.c rfl (.c rfl (.c rfl (.c rfl (.c rfl (.c rfl (.c rfl (.c rfl (.c rfl (.c rfl (.c rfl (.c rfl (.c rfl (.c rfl (.c rfl (.c rfl (.c rfl (.c rfl (.c rfl (.c rfl (.c rfl (.c rfl (.c rfl (.c rfl (.c rfl (.c rfl (.c rfl (.c rfl (.c rfl (.c rfl (.c rfl (.c rfl (.c rfl (.c rfl (.c rfl (.c rfl .n))))))))))))))))))))))))))))))))))))))))))))))))))) (.c 1 rfl (.c 1 rfl (.c 1 rfl (.d 0 .r))))
          · refine lGY rfl rfl rfl (oV (yMove rfl) rfl ?_)
            refine lGY rfl rfl rfl (oV (yMove rfl) rfl ?_)
            refine lGY rfl rfl rfl (oV (ySub rfl rfl (by omega)) rfl ?_)
            refine lGY rfl rfl rfl (oV (yGeq rfl rfl) rfl ?_)
            refine lV (yPickF rfl rfl) rfl rfl ?_
            refine lNil ?_
            refine kThen ?_
            refine split (t := 132) rfl (fun h132 => ?_) (fun h132 => ?_)
            · refine kIfT rfl ?_
              refine kExit ?_
              refine kThenX ?_
              refine kInX ?_
              refine kThen ?_
              refine kRegion rfl ?_
              refine lV (yAdd rfl rfl (by omega)) rfl rfl ?_
              refine lV (yMove rfl) rfl rfl ?_
              refine lNil ?_
              exact kRoundX (i2 + 1, k3 + 1 + 1 + 1, g3, ls) (⟨by dsimp only; omega, by dsimp only; omega, by dsimp only; omega, hgd, hg3⟩) (by dsimp only; omega) rfl (.c rfl .n) (.c rfl (.c rfl (.c rfl (.c rfl (.c rfl (.c rfl (.c rfl (.c rfl (.c rfl (.c rfl (.c rfl (.c rfl (.c rfl (.c rfl (.c rfl (.c rfl (.c rfl (.c rfl (.c rfl (.c rfl (.c rfl (.c rfl (.c rfl (.c rfl (.c rfl (.c rfl (.c rfl (.c rfl (.c rfl (.c rfl (.c rfl (.c rfl (.c rfl (.c rfl (.c rfl (.c rfl (.c rfl (.c rfl (.c rfl (.c rfl (.c rfl (.c rfl (.c rfl (.c rfl (.c rfl (.c rfl (.c rfl (.c rfl (.c rfl (.c rfl (.c rfl .n))))))))))))))))))))))))))))))))))))))))))))))))))) (.c 1 rfl (.c 1 rfl (.c 1 rfl (.d 0 .r))))
            · refine kIfF rfl ?_
              refine kSkip ?_
              refine kThen ?_
              refine kSeq ?_
              refine kRegion rfl ?_
              refine lV (yFieldAddr rfl F29_0) rfl rfl ?_
              refine lV (yFieldAddr rfl F26_0) rfl rfl ?_
              refine lV (yLoad1 rfl O22 (cOwn 5 rfl rfl)) rfl rfl ?_
              refine lV (yMove rfl) rfl rfl ?_
              refine lV (yQuo rfl rfl (by omega) (by omega) (by omega)) rfl rfl ?_
              refine same (t := 137) (u := i64 (((nn / 1000).toNat : Nat) : Int)) rfl (by congr 1; omega) ?_
              refine lV (yIndexS  rfl rfl S22 (fun w hw => OS.rowsE (f := rowE) (0, 0) hg hw (.c 1 rfl .n)) (by omega)) rfl rfl ?_
              refine lV (yLoadA (vs := [_, _]) rfl A24 (cSl0 (fun w hw => OS.rowsE (f := rowE) (0, 0) hg hw (.c 1 rfl .n)) (by omega) rfl)) rfl rfl ?_
              refine lE rfl ?_
              refine eAlloc Z24 fun n11 => ?_
              refine lE rfl ?_
              refine eStoreL 0 rfl rfl rfl rfl K24 rfl (rfl) ?_
              refine lNil ?_
              have hbe := hel _ (getD_mem (l := es) (i := (nn / 1000).toNat) (by omega) (0, 0))
              have hb14 := draw_bd l (k3 + 1 + 1 + 1 + 1) (n := (es.getD (nn / 1000).toNat (0, 0)).2 - (es.getD (nn / 1000).toNat (0, 0)).1 + 1) (by omega)
              refine kThen ?_
              refine kSeq ?_
              refine kDrawE [(6, none), (8, none)] [(2, (fun w => w.heap[n11]? = some (blk [i64 (es.getD (nn / 1000).toNat (0, 0)).1, i64 (es.getD (nn / 1000).toNat (0, 0)).2] 24)))] [0, 1, 2, 3, 4, 5, 6, 7, 8, 9, 10, 13] 3 hMix (by kernel_rfl) ?_
              refine .run rfl (yMove rfl) rfl rfl ?_
              refine .run rfl (yFieldAddr rfl F24_0) rfl rfl ?_
              refine .run rfl (yLoad1 rfl O3 (cHeap rfl)) rfl rfl ?_
              refine .run rfl (ySub rfl rfl (by omega)) rfl rfl ?_
              refine .run rfl (yMove rfl) rfl rfl ?_
              refine .run rfl (yFieldAddr rfl F24_1) rfl rfl ?_
              refine .run rfl (yLoad1 rfl O3 (cOwn 2 rfl rfl)) rfl rfl ?_
              refine .run rfl (yFieldAddr rfl F24_0) rfl rfl ?_
              refine .run rfl (yLoad1 rfl O3 (cOwn 2 rfl rfl)) rfl rfl ?_
              refine .run rfl (ySub rfl rfl (by omega)) rfl rfl ?_
              refine .run rfl (yAdd rfl rfl (by omega)) rfl rfl ?_
              refine .run rfl (yFieldAddr rfl F49_1) rfl rfl ?_
              refine .done ?_
              refine effStep 11 [] (by kernel_rfl) closedSt (hLeft [2, 6, 8] (by kernel_rfl) (.c (fun _ _ hs => hs.ef.blkAt 2 rfl) (.c (fun _ _ hs => hs.ef) (.c (fun _ _ hs => hs.ef) .n)))) ?_
              refine .c ?_ .n
              refine effOne rfl (gNone rfl (eCallWM 0 rfl rfl (.c rfl .n) C65 (fun w hw hb => draw1_any nb nc a c l (k3 + 1 + 1 + 1) ((es.getD (nn / 1000).toNat (0, 0)).2 - (es.getD (nn / 1000).toNat (0, 0)).1 + 1) w hb ⟨hw.blkAt 1 rfl, hd.s.eff hw (mne ho.na ho.nc)⟩ ho (by omega) (by omega)) trSelf)) ?_
              refine effStep 12 [] (by kernel_rfl) closedSt (hLeft [2] (by kernel_rfl) (.c (fun _ _ hs => hs.ef.blkAt 2 rfl) .n)) ?_
              refine .c ?_ .n
              refine effOne rfl (gNone rfl (fV (ySub rfl rfl (by omega)) rfl)) ?_
              refine effStep 14 [] (by kernel_rfl) closedSt (hLeft [] (by kernel_rfl) .n) ?_
              refine .c ?_ .n
              refine effOne rfl (gNone rfl (fStoreL 1 rfl rfl rfl rfl K3 rfl (rfl))) ?_
              refine effDone closedSt (hLeft [] (by kernel_rfl) .n) (by kernel_rfl) ?_
              obtain ⟨r, hr⟩ : ∃ v : Int, nn - (es.getD (nn / 1000).toNat (0, 0)).1 - drawI l (k3 + 1 + 1 + 1 + 1) ((es.getD (nn / 1000).toNat (0, 0)).2 - (es.getD (nn / 1000).toNat (0, 0)).1 + 1) = v := ⟨_, rfl⟩
              rw [hr]
              refine kThen ?_
              refine kSeq ?_
              refine kRegion rfl ?_
              refine lV (yFieldAddr rfl F49_1) rfl rfl ?_
              refine lV (yLoad1 rfl O3 (cOwn 3 rfl rfl)) rfl rfl ?_
              refine lV (yGeq rfl rfl) rfl rfl ?_
              refine lV (yMove rfl) rfl rfl ?_
              refine split (t := 157) rfl (fun h157 => ?_) (fun h157 => ?_)
              · refine lGY rfl rfl rfl (oV (yFieldAddr rfl F49_1) rfl ?_)
                refine lGY rfl rfl rfl (oV (yLoad1 rfl O3 (cOwn 3 rfl rfl)) rfl ?_)
                refine lGY rfl rfl rfl (oV (yMove rfl) rfl ?_)
                refine lGY rfl rfl rfl (oV (yLss rfl rfl) rfl ?_)
                refine lV (yPickT rfl rfl) rfl rfl ?_
                refine lV (yMove rfl) rfl rfl ?_
                refine split (t := 163) rfl (fun h163 => ?_) (fun h163 => ?_)
                · refine lGY rfl rfl rfl (oV (yFieldAddr rfl F49_1) rfl ?_)
                  refine lGY rfl rfl rfl (oV (yLoad1 rfl O3 (cOwn 3 rfl rfl)) rfl ?_)
                  refine lGY rfl rfl rfl (oV (yQuo rfl rfl (by omega) (by omega) (by omega)) rfl ?_)
                  refine lGY rfl rfl rfl (oV (yMove rfl) rfl ?_)
                  refine lGY rfl rfl rfl (oV (yQuo rfl rfl (by omega) (by omega) (by omega)) rfl ?_)
                  refine lGY rfl rfl rfl (oV (yEql rfl rfl) rfl ?_)
                  refine lV (yPickT rfl rfl) rfl rfl ?_
                  refine lNil ?_
                  refine kThen ?_
                  refine split (t := 170) rfl (fun h170 => ?_) (fun h170 => ?_)
                  · refine kIfT rfl ?_
                    have hgood : good ⟨es, (-d3, d4), 1 + d5, (max 0 (sum - d7), min 131072 (sum + d8)), []⟩ sum ps (d11, r, rv) := by
                      rw [← hr]
                      exact good_of (v := -d3 + drawI l (k3 + 1 + 1 + 1) (d4 - -d3 + 1)) (x := xx) ⟨by omega, by omega⟩ hx2 ⟨by dsimp only; omega, by dsimp only; omega⟩ hnn.symm ⟨hb14.1, by omega⟩ (by rw [hr]; omega) (by rw [hr]; omega) (by rw [hr]; exact h170)
                    refine kRegion rfl ?_
                    refine lV (yFieldAddr rfl F29_3) rfl rfl ?_
                    refine lV (yLoad1 rfl O27 (cOwn 6 rfl rfl)) rfl rfl ?_
                    refine lV (yLoadA (vs := [_, _, _]) rfl A49 (cOwn 3 rfl rfl)) rfl rfl ?_
                    refine lE rfl ?_
                    refine eBuildSlice (.c rfl .n) (fun w => BS27_1_0 w) fun n174 => ?_
                    refine lE rfl ?_
                    refine eAppend (gs := g3) [(n174, _), (n11, _), (n7, _), (nE, _), (nP, _), (n2, _)] [rowS (d11, r, rv)] AP27 rfl rfl .r hg3 rfl (rowsS_len [_]) (SlN.own 2 rfl rfl) (rowsS_one [_]) (by simp; omega) (by simp; omega) fun h3 hh3 => ?_
                    refine same (t := 175) (u := osV h3 (List.map rowS (ls ++ [(d11, r, rv)])).length) rfl (by rw [List.map_append]; rfl) ?_
                    refine lV (yFieldAddr rfl F29_3) rfl rfl ?_
                    refine lE rfl ?_
                    refine eStoreL 5 rfl rfl rfl rfl K27 rfl (rfl) ?_
                    refine lNil ?_
                    refine kInN ?_
                    refine kThen ?_
                    refine kRegion rfl ?_
                    refine lV (yAdd rfl rfl (by omega)) rfl rfl ?_
                    refine lV (yMove rfl) rfl rfl ?_
                    refine lNil ?_
                    exact kRoundX (i2 + 1, k3 + 1 + 1 + 1 + 1, h3, ls ++ [(d11, r, rv)]) (⟨by dsimp only; omega, by dsimp only; omega, by simp; omega, fun s hs => (List.mem_append.1 hs).elim (hgd s) fun hs => by simp only [List.mem_singleton] at hs; subst hs; exact hgood, by dsimp only; rw [List.map_append]; exact hh3⟩) (by dsimp only; omega) rfl (.c rfl .n) (.c rfl (.c rfl (.c rfl (.c rfl (.c rfl (.c rfl (.c rfl (.c rfl (.c rfl (.c rfl (.c rfl (.c rfl (.c rfl (.c rfl (.c rfl (.c rfl (.c rfl (.c rfl (.c rfl (.c rfl (.c rfl (.c rfl (.c rfl (.c rfl (.c rfl (.c rfl (.c rfl (.c rfl (.c rfl (.c rfl (.c rfl (.c rfl (.c rfl (.c rfl (.c rfl (.c rfl (.c rfl (.c rfl (.c rfl (.c rfl (.c rfl (.c rfl (.c rfl (.c rfl (.c rfl (.c rfl (.c rfl (.c rfl (.c rfl (.c rfl (.c rfl .n))))))))))))))))))))))))))))))))))))))))))))))))))) (.c 3 rfl (.c 3 rfl (.c 3 rfl (.d 0 (.d 0 (.d 0 .r))))))
                  · refine kIfF rfl ?_
                    refine kSkip ?_
                    refine kInN ?_
                    refine kThen ?_
                    refine kRegion rfl ?_
                    refine lV (yAdd rfl rfl (by omega)) rfl rfl ?_
                    refine lV (yMove rfl) rfl rfl ?_
                    refine lNil ?_
                    exact kRoundX (i2 + 1, k3 + 1 + 1 + 1 + 1, g3, ls) (⟨by dsimp only; omega, by dsimp only; omega, by dsimp only; omega, hgd, hg3⟩) (by dsimp only; omega) rfl (.c rfl .n) (.c rfl (.c rfl (.c rfl (.c rfl (.c rfl (.c rfl (.c rfl (.c rfl (.c rfl (.c rfl (.c rfl (.c rfl (.c rfl (.c rfl (.c rfl (.c rfl (.c rfl (.c rfl (.c rfl (.c rfl (.c rfl (.c rfl (.c rfl (.c rfl (.c rfl (.c rfl (.c rfl (.c rfl (.c rfl (.c rfl (.c rfl (.c rfl (.c rfl (.c rfl (.c rfl (.c rfl (.c rfl (.c rfl (.c rfl (.c rfl (.c rfl (.c rfl (.c rfl (.c rfl (.c rfl (.c rfl (.c rfl (.c rfl (.c rfl (.c rfl (.c rfl .n))))))))))))))))))))))))))))))))))))))))))))))))))) (.c 2 rfl (.c 2 rfl (.c 2 rfl (.d 0 (.d 0 .r)))))
                · refine lGN rfl rfl rfl rfl rfl ?_
                  refine lGN rfl rfl rfl rfl rfl ?_
                  refine lGN rfl rfl rfl rfl rfl ?_
                  refine lGN rfl rfl rfl rfl rfl ?_
                  refine lGN rfl rfl rfl rfl rfl ?_
                  refine lGN rfl rfl rfl rfl rfl ?_
                  refine lV (yPickF rfl rfl) rfl rfl ?_
                  refine lNil ?_
                  refine kThen ?_
                  refine kIfF rfl ?_
                  refine kSkip ?_
                  refine kInN ?_
                  refine kThen ?_
                  refine kRegion rfl ?_
                  refine lV (yAdd rfl rfl (by omega)) rfl rfl ?_
                  refine lV (yMove rfl) rfl rfl ?_
                  refine lNil ?_
                  exact kRoundX (i2 + 1, k3 + 1 + 1 + 1 + 1, g3, ls) (⟨by dsimp only; omega, by dsimp only; omega, by dsimp only; omega, hgd, hg3⟩) (by dsimp only; omega) rfl (.c rfl .n) (.c rfl (.c rfl (.c rfl (.c rfl (.c rfl (.c rfl (.c rfl (.c rfl (.c rfl (.c rfl (.c rfl (.c rfl (.c rfl (.c rfl (.c rfl (.c rfl (.c rfl (.c rfl (.c rfl (.c rfl (.c rfl (.c rfl (.c rfl (.c rfl (.c rfl (.c rfl (.c rfl (.c rfl (.c rfl (.c rfl (.c rfl (.c rfl (.c rfl (.c rfl (.c rfl (.c rfl (.c rfl (.c rfl (.c rfl (.c rfl (.c rfl (.c rfl (.c rfl (.c rfl (.c rfl (.c rfl (.c rfl (.c rfl (.c rfl (.c rfl (.c rfl .n))))))))))))))))))))))))))))))))))))))))))))))))))) (.c 2 rfl (.c 2 rfl (.c 2 rfl (.d 0 (.d 0 .r)))))
              · refine lGN rfl rfl rfl rfl rfl ?_
                refine lGN rfl rfl rfl rfl rfl ?_
                refine lGN rfl rfl rfl rfl rfl ?_
                refine lGN rfl rfl rfl rfl rfl ?_
                refine lV (yPickF rfl rfl) rfl rfl ?_
                refine lV (yMove rfl) rfl rfl ?_
                refine lGN rfl rfl rfl rfl rfl ?_
                refine lGN rfl rfl rfl rfl rfl ?_
                refine lGN rfl rfl rfl rfl rfl ?_
                refine lGN rfl rfl rfl rfl rfl ?_
                refine lGN rfl rfl rfl rfl rfl ?_
                refine lGN rfl rfl rfl rfl rfl ?_
                refine lV (yPickF rfl rfl) rfl rfl ?_
                refine lNil ?_
                refine kThen ?_
                refine kIfF rfl ?_
                refine kSkip ?_
                refine kInN ?_
                refine kThen ?_
                refine kRegion rfl ?_
                refine lV (yAdd rfl rfl (by omega)) rfl rfl ?_
                refine lV (yMove rfl) rfl rfl ?_
                refine lNil ?_
                exact kRoundX (i2 + 1, k3 + 1 + 1 + 1 + 1, g3, ls) (⟨by dsimp only; omega, by dsimp only; omega, by dsimp only; omega, hgd, hg3⟩) (by dsimp only; omega) rfl (.c rfl .n) (.c rfl (.c rfl (.c rfl (.c rfl (.c rfl (.c rfl (.c rfl (.c rfl (.c rfl (.c rfl (.c rfl (.c rfl (.c rfl (.c rfl (.c rfl (.c rfl (.c rfl (.c rfl (.c rfl (.c rfl (.c rfl (.c rfl (.c rfl (.c rfl (.c rfl (.c rfl (.c rfl (.c rfl (.c rfl (.c rfl (.c rfl (.c rfl (.c rfl (.c rfl (.c rfl (.c rfl (.c rfl (.c rfl (.c rfl (.c rfl (.c rfl (.c rfl (.c rfl (.c rfl (.c rfl (.c rfl (.c rfl (.c rfl (.c rfl (.c rfl (.c rfl .n))))))))))))))))))))))))))))))))))))))))))))))))))) (.c 2 rfl (.c 2 rfl (.c 2 rfl (.d 0 (.d 0 .r)))))
      · refine kIfF rfl ?_
        refine kExit ?_
        refine kThenX ?_
        refine kThenX ?_
        refine kInX ?_
        refine kThen ?_
        refine kSeq ?_
        refine kRegion rfl ?_
        refine lV (yLoadA (vs := [_, _, _, _, _, _, _]) rfl A29 (cOwn 4 rfl rfl)) rfl rfl ?_
        refine lV (yMove rfl) rfl rfl ?_
        refine lV (yMove rfl) rfl rfl ?_
        refine lE rfl ?_
        refine eStoreL 2 rfl rfl rfl rfl K29 rfl (rfl) ?_
        refine lV (yAssign rfl) rfl rfl ?_
        refine lV (yAssign rfl) rfl rfl ?_
        refine lNil ?_
        refine kThen ?_
        refine kRet ?_
        refine fRet rfl (.cA (us := [_, _, _, _, _, _, _]) rfl A29 (cOwn 4 rfl rfl) (.t rfl (.t rfl .n))) ?_
        rw [List.length_map]
        exact endX (MadeX.mk ⟨es, (-d3, d4), 1 + d5, (max 0 (sum - d7), min 131072 (sum + d8)), ls⟩ sum ps nE cE vE nP cP vP g3 k3) ⟨made_of hbase (by omega) hgd, hg, hg2, hg3⟩ rfl rfl (.c 0 rfl (.c 0 rfl (.d 0 .r)))
end Go.Proofs.Ytoefcofplkbnkaa
