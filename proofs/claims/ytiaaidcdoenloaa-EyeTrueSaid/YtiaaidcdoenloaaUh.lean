/-
  Walk: EyeTrue.
-/
import Derived.Test.YtiaaidcdoenloaaUg
namespace Go.Proofs.Ytiaaidcdoenloaa
open ZW

theorem forgetM {W w w' : World} {M2 L L2 : Heap} (h : Eff W [] L w) (k : Eff w M2 L2 w') (hm : ∀ p ∈ M2, W.heap.size ≤ p.1) : Eff W [] L2 w' := by
  refine ⟨k.os.trans h.os, k.tape.trans h.tape, k.output.trans h.output, Nat.le_trans h.size k.size, fun j hj _ => ?_, fun p hp => k.own p (by simp at hp; simp [hp]), fun p hp => Nat.le_trans h.size (k.new p hp), fun p hp => by simp at hp, ?_⟩
  · rw [k.frame j (Nat.lt_of_lt_of_le hj h.size) fun p hp e => by have := hm p hp; omega]
    exact h.frame j hj (by simp)
  · have := k.nd
    rw [List.map_append, List.nodup_append] at this
    simpa using this.2.1
theorem two_new {W w : World} {na nb : Nat} {o o' o2 o3 : Obj} (hw : Eff W [] [(na, o), (nb, o')] w) : ∀ p ∈ ([(na, o2), (nb, o3)] : Heap), W.heap.size ≤ p.1 := by
  intro p hp
  simp only [List.mem_cons, List.not_mem_nil, or_false] at hp
  rcases hp with rfl | rfl
  · exact hw.new (na, o) (by simp)
  · exact hw.new (nb, o') (by simp)
theorem drawOk_of {W w : World} {na nb : Nat} {a : Option Addr} {l : List Nat} {o o' : Obj} (hw : Eff W [] [(na, o), (nb, o')] w) (hs : SlE W a l.length 1 (l16C l)) (h0 : 0 < l.length) (hq : ∀ x ∈ l, x < 65536) : DrawOk na nb a l := by
  have h1 : W.heap.size ≤ na := hw.new (na, o) (by simp)
  have h2 : W.heap.size ≤ nb := hw.new (nb, o') (by simp)
  have hnd := hw.nd
  simp at hnd
  have hb : sblk a < W.heap.size := by
    have h3 := hs.cell 0 0 h0 (by decide)
    exact World.block_lt_of_cell? W ⟨sblk a, _, none⟩ (h3.trans rfl)
  exact ⟨hnd, by omega, by omega, h0, hq⟩
set_option maxRecDepth 100000 in
theorem draws_any (a : Option Addr) (c n : Nat) (w : World) : Calls Try.prog 30 [.slice a n c].toArray w
    (RetX w (fun _ : Nat × Nat => True) (fun x => .func (.func 64) [].toArray [.pointer (some ⟨x.1, 0, none⟩), .pointer (some ⟨x.2, 0, none⟩)].toArray) (fun _ => []) (fun x => [(x.1, blk [i64 0] 3), (x.2, blk [.slice a n c] 40)])) := by
  refine fEnter Try.func30 rfl Try.ntmps30 rfl ?_
  refine kSeq ?_
  refine kRegion rfl ?_
  refine lE rfl ?_
  refine eBox1 rfl rfl fun n1 => ?_
  refine lV (yAssign rfl) rfl rfl ?_
  refine lNil ?_
  refine kThen ?_
  refine kSeq ?_
  refine kRegion rfl ?_
  refine lE rfl ?_
  refine eAlloc Z3 fun n3 => ?_
  refine lE rfl ?_
  refine eStoreL 0 rfl rfl rfl rfl K3 rfl (rfl) ?_
  refine lNil ?_
  refine kThen ?_
  refine kSeq ?_
  refine kRegion rfl ?_
  refine lV (yMakeFunc .n (.c rfl (.c rfl .n))) rfl rfl ?_
  refine lV (yAssign rfl) rfl rfl ?_
  refine lNil ?_
  refine kThen ?_
  refine kRet ?_
  refine fRet rfl (.t rfl .n) ?_
  exact endX (n3, n1) trivial rfl rfl .r
theorem seenB_or (X : Wat) (a k : Nat) (b : Bool) (h : b = seenB X a k) : (if b = true then true else decide ((lkAt X k).2.1 = (a : Nat))) = seenB X a (k + 1) := by
  rw [seenB_succ, ← h]; cases b <;> rfl
set_option maxHeartbeats 4000000 in
set_option maxRecDepth 100000 in
theorem true_any (a : Option Addr) (c : Nat) (l : List Nat) (w : World) (hl : SlE w a l.length 1 (l16C l)) (hq : ∀ x ∈ l, x < 65536) : Calls Try.prog 5 [.slice a l.length c].toArray w (Ret w (.bool true)) := by
  refine fEnter Try.func5 rfl Try.ntmps5 rfl ?_
  refine kSeq ?_
  refine kRegion rfl ?_
  refine lV (yAssign rfl) rfl rfl ?_
  refine lNil ?_
  refine kThen ?_
  refine kSeq ?_
  refine kSeq ?_
  refine kRegion rfl ?_
  refine lV (yMove rfl) rfl rfl ?_
  refine lV (yLen rfl S40) rfl rfl ?_
  refine lV (yEql rfl rfl) rfl rfl ?_
  refine lNil ?_
  refine kThen ?_
  refine split (t := 36) rfl (fun h36 => ?_) (fun h36 => ?_)
  · refine kIfT rfl ?_
    refine kSeq ?_
    refine kRegion rfl ?_
    refine lV (yCall rfl .n C14 (fun w hw => awake_any w)) rfl rfl ?_
    refine lV (yAssign rfl) rfl rfl ?_
    refine lNil ?_
    refine kThen ?_
    refine kRet ?_
    refine kThenR ?_
    refine fRet rfl (.t rfl .n) (endRet ?_)
    first | rfl | (simp [packV, *]; done)
  · refine kIfF rfl ?_
    refine kSkip ?_
    refine kThen ?_
    refine kSeq ?_
    refine kRegion rfl ?_
    refine lV (yMove rfl) rfl rfl ?_
    refine lE rfl ?_
    refine eCallO rfl (.c rfl .n) C30 (fun w hw => draws_any a c l.length w) fun x _ => ?_
    obtain ⟨na, nb⟩ := x
    dsimp only
    refine lE rfl ?_
    refine eCallM (fun _ => []) (fun x => [(x.nE, blk x.vE 24), (x.nH, blk x.vH 3), (x.nP, blk x.vP 3)] ++ osL 47 x.g) rfl (.c rfl .n) C29 (fun w hw => made_any na nb a c l w (hw.blkAt 0 rfl) ⟨hw.blkAt 1 rfl, hl.eff0 hw⟩ (drawOk_of hw hl (by omega) hq)) (fun y w w' _ h k => forgetM h k (two_new h)) fun x hx => ?_
    obtain ⟨X, hs, ps, nE, cE, vE, nH, cH, vH, nP, cP, vP, g, k⟩ := x
    obtain ⟨hmd, hE, hH, hP, hS⟩ := hx
    dsimp only at hmd hE hH hP hS ⊢
    have hM := hmd.ok
    have hN := hM.n
    have hI := hM.i
    have hEy := hM.e
    have hlh := hmd.lh
    have hlp := hmd.lp
    have ho := hmd.okW
    have hn : X.looks.length ≤ 1000000 := by omega
    have cf := set_facts hM
    have hc0 : clashN X = 0 := cf.c0.1 ho
    have hd0 : dropN X = 0 := cf.d0.1 ho
    have hsl := sureN_lt X
    have hp4 : 2 ^ X.eyes.toNat ≤ 2 ^ 4 := Nat.pow_le_pow_right (by omega) (by omega)
    have ef := expl_facts hM ho
    have ele := ef.le
    have hlt := allE_lt hM
    have hhb := hM.h
    have hhk := hM.k
    refine lV (yMove rfl) rfl rfl ?_
    refine lV (yExtract rfl rfl) rfl rfl ?_
    refine lV (yExtract rfl rfl) rfl rfl ?_
    refine lV (yExtract rfl rfl) rfl rfl ?_
    refine lE rfl ?_
    refine eAlloc Z29 fun n3 => ?_
    refine lE rfl ?_
    refine eStoreL 0 rfl rfl rfl rfl K29 rfl (rfl) ?_
    refine lV (yAssign rfl) rfl rfl ?_
    refine lV (yAssign rfl) rfl rfl ?_
    refine lNil ?_
    refine kThen ?_
    refine kSeq ?_
    refine kSeq ?_
    refine kRegion rfl ?_
    refine lV (yFieldAddr rfl F29_4) rfl rfl ?_
    refine lV (yLoad1 rfl O27 (cOwn 0 rfl rfl)) rfl rfl ?_
    refine lV (yLen rfl S27) rfl rfl ?_
    refine lV (yMove rfl) rfl rfl ?_
    refine lNil ?_
    refine kThen ?_
    refine kBlock ?_
    refine kLoopX (ι := Nat) (fun i => i ≤ X.looks.length) (fun i => [(48, i64 (i : Nat))]) [(0, _), (34, _), (35, _), (36, _), (39, _), (40, _), (41, _), (38, _), (42, _), (43, _), (44, _), (3, _), (4, _), (5, _), (45, _), (46, _), (47, _)] (fun i => []) (fun i => osL 47 g) [(n3, _), (nE, _), (nH, _), (nP, _)] (fun i => X.looks.length - i) 0 (Nat.zero_le _) rfl (.c rfl .n) (.c rfl (.c rfl (.c rfl (.c rfl (.c rfl (.c rfl (.c rfl (.c rfl (.c rfl (.c rfl (.c rfl (.c rfl (.c rfl (.c rfl (.c rfl (.c rfl (.c rfl .n))))))))))))))))) (.c 0 rfl (.c 0 rfl (.c 0 rfl (.c 0 rfl .r)))) ?_
    rintro i hi
    refine kSeq ?_
    refine kRegion rfl ?_
    refine lV (yLss rfl rfl) rfl rfl ?_
    refine lNil ?_
    refine kThen ?_
    refine kSeq ?_
    refine split (t := 49) rfl (fun h49 => ?_) (fun h49 => ?_)
    · refine kIfT rfl ?_
      refine kSkip ?_
      refine kThen ?_
      refine kSeq ?_
      refine kBlock ?_
      refine kSeq ?_
      refine kRegion rfl ?_
      refine lV (yIndexS  rfl rfl S27 (fun w hw => OS.rowsE (f := rowK) look0 hS hw (.d 0 (.d 0 (.d 0 (.d 0 .r))))) (by omega)) rfl rfl ?_
      refine lV (yLoadA (vs := [_, _, _]) rfl A47 (cSl0 (fun w hw => OS.rowsE (f := rowK) look0 hS hw (.d 0 (.d 0 (.d 0 (.d 0 .r))))) (by omega) rfl)) rfl rfl ?_
      refine lE rfl ?_
      refine eAlloc Z47 fun n7 => ?_
      refine lE rfl ?_
      refine eStoreL 0 rfl rfl rfl rfl K47 rfl (rfl) ?_
      refine lNil ?_
      refine kThen ?_
      refine kSeq ?_
      have hil : i < X.looks.length := by omega
      have him := hM.l _ (lkAt_mem hil)
      have him1 := him.2.1
      have him2 := him.2.2
      have hst := hmd.lookT hil
      have hbp := hmd.pb _ (getD_mem (l := ps) (i := (lkAt X i).2.1.toNat) (by omega) 0)
      have hbh := hmd.hb _ (getD_mem (l := hs) (i := (lkAt X i).1.toNat) (by omega) 0)
      refine kRegion rfl ?_
      refine lV (yFieldAddr rfl F29_0) rfl rfl ?_
      refine lV (yLoadA (vs := [_, _, _]) rfl A26 (cOwn 1 rfl rfl)) rfl rfl ?_
      refine lV (yFieldAddr rfl F47_2) rfl rfl ?_
      refine lV (yLoad1 rfl O3 (cOwn 0 rfl rfl)) rfl rfl ?_
      refine lV (yCall rfl (.c rfl (.c rfl .n)) C31 (fun w hw => travelX_any (WLoc.l ⟨some ⟨nE, 0, none⟩, cE, osA g, osC g⟩) X.m (lkAt X i).2.2 w (InW.m ⟨OS.rowsE (f := rowE) (0, 0) hE hw (.c 2 rfl .n), OS.rowsE (f := rowK) look0 hS hw (.d 0 (.d 0 (.d 0 (.d 0 (.d 0 .r)))))⟩))) rfl rfl ?_
      refine same (t := 57) (u := outC (trv X i, 0)) rfl (by rw [travelE_look hM hil]) ?_
      refine lV (yMove rfl) rfl rfl ?_
      refine lV (yExtract rfl rfl) rfl rfl ?_
      refine lV (yExtract rfl rfl) rfl rfl ?_
      refine lE rfl ?_
      refine eAlloc Z24 fun n8 => ?_
      refine lE rfl ?_
      refine eStoreL 0 rfl rfl rfl rfl K24 rfl (rfl) ?_
      refine lV (yAssign rfl) rfl rfl ?_
      refine lNil ?_
      refine kThen ?_
      refine kSeq ?_
      refine kDrawE [(3, none), (6, none), (7, none), (8, none), (11, none), (12, none), (13, none), (15, none)] [] [0, 1, 2, 3, 4, 5, 6, 7, 8, 9, 10, 11, 12, 13, 14, 15, 16, 17] 0 hMix (by kernel_rfl) ?_
      refine .run rfl (yMove rfl) rfl rfl ?_
      refine .run rfl (yvFalse (yNeq rfl rfl) (fun h => h rfl)) rfl rfl ?_
      refine .run rfl (yMove rfl) rfl rfl ?_
      refine .runG rfl (yLoadA (vs := [_, _]) rfl A24 (cOwn 0 rfl rfl)) rfl rfl rfl rfl ?_
      refine .runG rfl (yMove rfl) rfl rfl rfl rfl ?_
      refine .runG rfl (yFieldAddr rfl F47_1) rfl rfl rfl rfl ?_
      refine .runG rfl (yvSame (u := i64 (((lkAt X i).2.1.toNat : Nat) : Int)) (yLoad1 rfl O3 (cOwn 1 rfl rfl)) (congrArg i64 (by show (lkAt X i).2.1 = _; omega))) rfl rfl rfl rfl ?_
      refine .runG rfl (yIndexS  rfl rfl S41 (fun w hw => OS.rowsE (f := rowV) 0 hP hw (.c 5 rfl .n)) (by omega)) rfl rfl rfl rfl ?_
      refine .runG rfl (yLoad1 rfl O3 (cSl0 (fun w hw => OS.rowsE (f := rowV) 0 hP hw (.c 5 rfl .n)) (by omega) rfl)) rfl rfl rfl rfl ?_
      refine .runG rfl (yMove rfl) rfl rfl rfl rfl ?_
      refine .runG rfl (yFieldAddr rfl F47_0) rfl rfl rfl rfl ?_
      refine .runG rfl (yvSame (u := i64 (((lkAt X i).1.toNat : Nat) : Int)) (yLoad1 rfl O3 (cOwn 1 rfl rfl)) (congrArg i64 (by show (lkAt X i).1 = _; omega))) rfl rfl rfl rfl ?_
      refine .runG rfl (yIndexS  rfl rfl S41 (fun w hw => OS.rowsE (f := rowV) 0 hH hw (.c 4 rfl .n)) (by omega)) rfl rfl rfl rfl ?_
      refine .runG rfl (yLoad1 rfl O3 (cSl0 (fun w hw => OS.rowsE (f := rowV) 0 hH hw (.c 4 rfl .n)) (by omega) rfl)) rfl rfl rfl rfl ?_
      refine .runG rfl (ySub rfl rfl (by omega)) rfl rfl rfl rfl ?_
      refine .runG rfl (yvIs (c := true) (yCall rfl (.c rfl (.c rfl .n)) C32 (fun w hw => inside_any _ _ _ w)) (decide_eq_true hst)) rfl rfl rfl rfl ?_
      refine .runG rfl (yNot rfl) rfl rfl rfl rfl ?_
      refine .run rfl (yPickF rfl rfl) rfl rfl ?_
      refine .done ?_
      refine effDone closedSt (hLeft [3, 6, 7, 8, 11, 12, 13, 15] (by kernel_rfl) (.c (fun _ _ hs => hs.ef) (.c (fun _ _ hs => hs.ef) (.c (fun _ _ hs => hs.ef) (.c (fun _ _ hs => hs.ef) (.c (fun _ _ hs => hs.ef) (.c (fun _ _ hs => hs.ef) (.c (fun _ _ hs => hs.ef) (.c (fun _ _ hs => hs.ef) .n))))))))) (by kernel_rfl) ?_
      refine kThen ?_
      refine kIfF rfl ?_
      refine kSkip ?_
      refine kInN ?_
      refine kThen ?_
      refine kRegion rfl ?_
      refine lV (yAdd rfl rfl (by omega)) rfl rfl ?_
      refine lV (yMove rfl) rfl rfl ?_
      refine lNil ?_
      exact kRoundX (i + 1) (by omega) (by omega) rfl (.c rfl .n) (.c rfl (.c rfl (.c rfl (.c rfl (.c rfl (.c rfl (.c rfl (.c rfl (.c rfl (.c rfl (.c rfl (.c rfl (.c rfl (.c rfl (.c rfl (.c rfl (.c rfl .n))))))))))))))))) (.c 2 rfl (.c 2 rfl (.c 2 rfl (.c 2 rfl (.d 0 (.d 0 .r))))))
    · refine kIfF rfl ?_
      refine kExit ?_
      refine kThenX ?_
      refine kThenX ?_
      refine kInX ?_
      refine kThen ?_
      refine kSeq ?_
      refine kRegion rfl ?_
      refine lV (yLoadA (vs := [_, _, _, _, _, _, _, _]) rfl A29 (cOwn 0 rfl rfl)) rfl rfl ?_
      refine lV (yCall rfl (.c rfl .n) C23 (fun w hw => clash_any ⟨some ⟨nE, 0, none⟩, cE, osA g, osC g⟩ X w ⟨OS.rowsE (f := rowE) (0, 0) hE hw (.c 1 rfl .n), OS.rowsE (f := rowK) look0 hS hw (.d 0 (.d 0 (.d 0 (.d 0 .r))))⟩ hn)) rfl rfl ?_
      refine same (t := 81) (u := outI (0, 0)) rfl (by rw [clashE_N hM, hc0]; rfl) ?_
      refine lV (yMove rfl) rfl rfl ?_
      refine lV (yExtract rfl rfl) rfl rfl ?_
      refine lV (yExtract rfl rfl) rfl rfl ?_
      refine lV (yAssign rfl) rfl rfl ?_
      refine lV (yAssign rfl) rfl rfl ?_
      refine lNil ?_
      refine kThen ?_
      refine kSeq ?_
      refine kRegion rfl ?_
      refine lV (yLoadA (vs := [_, _, _, _, _, _, _, _]) rfl A29 (cOwn 0 rfl rfl)) rfl rfl ?_
      refine lV (yCall rfl (.c rfl .n) C25 (fun w hw => drop_any ⟨some ⟨nE, 0, none⟩, cE, osA g, osC g⟩ X w ⟨OS.rowsE (f := rowE) (0, 0) hE hw (.c 1 rfl .n), OS.rowsE (f := rowK) look0 hS hw (.d 0 (.d 0 (.d 0 (.d 0 .r))))⟩ hn)) rfl rfl ?_
      refine same (t := 86) (u := outI (0, 0)) rfl (by rw [dropE_N hM, hd0]; rfl) ?_
      refine lV (yMove rfl) rfl rfl ?_
      refine lV (yExtract rfl rfl) rfl rfl ?_
      refine lV (yExtract rfl rfl) rfl rfl ?_
      refine lV (yAssign rfl) rfl rfl ?_
      refine lV (yAssign rfl) rfl rfl ?_
      refine lNil ?_
      refine kThen ?_
      refine kSeq ?_
      refine kRegion rfl ?_
      refine lV (yLoadA (vs := [_, _, _, _, _, _, _, _]) rfl A29 (cOwn 0 rfl rfl)) rfl rfl ?_
      refine lV (yCall rfl (.c rfl .n) C21 (fun w hw => sure_any ⟨some ⟨nE, 0, none⟩, cE, osA g, osC g⟩ X w ⟨OS.rowsE (f := rowE) (0, 0) hE hw (.c 1 rfl .n), OS.rowsE (f := rowK) look0 hS hw (.d 0 (.d 0 (.d 0 (.d 0 .r))))⟩ hn)) rfl rfl ?_
      refine same (t := 91) (u := outI (((sureN X : Nat) : Int), 0)) rfl (by rw [sureE_ok hM ho]) ?_
      refine lV (yMove rfl) rfl rfl ?_
      refine lV (yExtract rfl rfl) rfl rfl ?_
      refine lV (yExtract rfl rfl) rfl rfl ?_
      refine lV (yAssign rfl) rfl rfl ?_
      refine lV (yAssign rfl) rfl rfl ?_
      refine lNil ?_
      refine kThen ?_
      refine kSeq ?_
      refine kRegion rfl ?_
      refine lV (yLoadA (vs := [_, _, _, _, _, _, _, _]) rfl A29 (cOwn 0 rfl rfl)) rfl rfl ?_
      refine lV (yCall rfl (.c rfl .n) C27 (fun w hw => expl_any ⟨some ⟨nE, 0, none⟩, cE, osA g, osC g⟩ X w ⟨OS.rowsE (f := rowE) (0, 0) hE hw (.c 1 rfl .n), OS.rowsE (f := rowK) look0 hS hw (.d 0 (.d 0 (.d 0 (.d 0 .r))))⟩ hn)) rfl rfl ?_
      refine same (t := 96) (u := outI (((explN X : Nat) : Int), 0)) rfl (by rw [explE_N hM ho]) ?_
      refine lV (yMove rfl) rfl rfl ?_
      refine lV (yExtract rfl rfl) rfl rfl ?_
      refine lV (yExtract rfl rfl) rfl rfl ?_
      refine lV (yAssign rfl) rfl rfl ?_
      refine lV (yAssign rfl) rfl rfl ?_
      refine lNil ?_
      refine kThen ?_
      refine kSeq ?_
      refine kSeq ?_
      refine kRegion rfl ?_
      refine lV (yMove rfl) rfl rfl ?_
      refine lV (yNeq rfl rfl) rfl rfl ?_
      refine knownN (t := 100) rfl (fun h => h rfl) ?_
      refine lV (yMove rfl) rfl rfl ?_
      refine lGY rfl rfl rfl (oV (yMove rfl) rfl ?_)
      refine lGY rfl rfl rfl (oV (yNeq rfl rfl) rfl ?_)
      refine knownN (t := 103) rfl (fun h => h rfl) ?_
      refine lV (yPickF rfl rfl) rfl rfl ?_
      refine lV (yMove rfl) rfl rfl ?_
      refine lGY rfl rfl rfl (oV (yMove rfl) rfl ?_)
      refine lGY rfl rfl rfl (oV (yNeq rfl rfl) rfl ?_)
      refine knownN (t := 107) rfl (fun h => h rfl) ?_
      refine lV (yPickF rfl rfl) rfl rfl ?_
      refine lV (yMove rfl) rfl rfl ?_
      refine lGY rfl rfl rfl (oV (yMove rfl) rfl ?_)
      refine lGY rfl rfl rfl (oV (yNeq rfl rfl) rfl ?_)
      refine knownN (t := 111) rfl (fun h => h rfl) ?_
      refine lV (yPickF rfl rfl) rfl rfl ?_
      refine lV (yMove rfl) rfl rfl ?_
      refine lGY rfl rfl rfl (oV (yMove rfl) rfl ?_)
      refine lGY rfl rfl rfl (oV (yNeq rfl rfl) rfl ?_)
      refine knownN (t := 115) rfl (fun h => h rfl) ?_
      refine lV (yPickF rfl rfl) rfl rfl ?_
      refine lV (yMove rfl) rfl rfl ?_
      refine lGY rfl rfl rfl (oV (yMove rfl) rfl ?_)
      refine lGY rfl rfl rfl (oV (yNeq rfl rfl) rfl ?_)
      refine knownN (t := 119) rfl (fun h => h rfl) ?_
      refine lV (yPickF rfl rfl) rfl rfl ?_
      refine lNil ?_
      refine kThen ?_
      refine kIfF rfl ?_
      refine kSkip ?_
      refine kThen ?_
      refine kSeq ?_
      refine kRegion rfl ?_
      refine lV (yAssign rfl) rfl rfl ?_
      refine lNil ?_
      refine kThen ?_
      refine kSeq ?_
      refine kSeq ?_
      refine kRegion rfl ?_
      refine lV (yMove rfl) rfl rfl ?_
      refine lV (yLen rfl S41) rfl rfl ?_
      refine lV (yMove rfl) rfl rfl ?_
      refine lNil ?_
      refine kThen ?_
      refine kBlock ?_
      refine kLoopX (ι := Nat) (fun i => i ≤ hs.length) (fun i => [(123, i64 (i : Nat)), (18, i64 (nzC hs i : Nat))]) [(0, _), (34, _), (35, _), (36, _), (39, _), (40, _), (41, _), (38, _), (42, _), (43, _), (44, _), (3, _), (4, _), (5, _), (45, _), (46, _), (47, _), (48, _), (49, _), (80, _), (81, _), (79, _), (82, _), (83, _), (10, _), (11, _), (85, _), (86, _), (84, _), (87, _), (88, _), (12, _), (13, _), (90, _), (91, _), (89, _), (92, _), (93, _), (14, _), (15, _), (95, _), (96, _), (94, _), (97, _), (98, _), (16, _), (17, _), (99, _), (100, _), (101, _), (102, _), (103, _), (104, _), (105, _), (106, _), (107, _), (108, _), (109, _), (110, _), (111, _), (112, _), (113, _), (114, _), (115, _), (116, _), (117, _), (118, _), (119, _), (120, _), (121, _), (122, _)] (fun i => []) (fun i => osL 47 g) [(n3, _), (nE, _), (nH, _), (nP, _)] (fun i => hs.length - i) 0 (Nat.zero_le _) rfl (.c rfl (.c rfl .n)) (.c rfl (.c rfl (.c rfl (.c rfl (.c rfl (.c rfl (.c rfl (.c rfl (.c rfl (.c rfl (.c rfl (.c rfl (.c rfl (.c rfl (.c rfl (.c rfl (.c rfl (.c rfl (.c rfl (.c rfl (.c rfl (.c rfl (.c rfl (.c rfl (.c rfl (.c rfl (.c rfl (.c rfl (.c rfl (.c rfl (.c rfl (.c rfl (.c rfl (.c rfl (.c rfl (.c rfl (.c rfl (.c rfl (.c rfl (.c rfl (.c rfl (.c rfl (.c rfl (.c rfl (.c rfl (.c rfl (.c rfl (.c rfl (.c rfl (.c rfl (.c rfl (.c rfl (.c rfl (.c rfl (.c rfl (.c rfl (.c rfl (.c rfl (.c rfl (.c rfl (.c rfl (.c rfl (.c rfl (.c rfl (.c rfl (.c rfl (.c rfl (.c rfl (.c rfl (.c rfl (.c rfl .n))))))))))))))))))))))))))))))))))))))))))))))))))))))))))))))))))))))) (.c 0 rfl (.c 0 rfl (.c 0 rfl (.c 0 rfl .r)))) ?_
      rintro i hi
      have hcl := nzC_le hs i
      refine kSeq ?_
      refine kRegion rfl ?_
      refine lV (yLss rfl rfl) rfl rfl ?_
      refine lNil ?_
      refine kThen ?_
      refine kSeq ?_
      refine split (t := 124) rfl (fun h124 => ?_) (fun h124 => ?_)
      · refine kIfT rfl ?_
        refine kSkip ?_
        refine kThen ?_
        refine kSeq ?_
        refine kBlock ?_
        refine kSeq ?_
        refine kRegion rfl ?_
        refine lV (yMove rfl) rfl rfl ?_
        refine lV (yIndexS  rfl rfl S41 (fun w hw => OS.rowsE (f := rowV) 0 hH hw (.c 2 rfl .n)) (by omega)) rfl rfl ?_
        refine lV (yLoad1 rfl O3 (cSl0 (fun w hw => OS.rowsE (f := rowV) 0 hH hw (.c 2 rfl .n)) (by omega) rfl)) rfl rfl ?_
        refine lV (yAssign rfl) rfl rfl ?_
        refine lV (yAssign rfl) rfl rfl ?_
        refine lNil ?_
        refine kThen ?_
        refine kSeq ?_
        have hme : i < X.eyes.toNat := by omega
        have hmr : 0 ≤ ((i : Nat) : Int) ∧ ((i : Nat) : Int) ≤ X.eyes - 1 := by omega
        have hab := hmd.hab hme
        have hbi := hmd.hb _ (getD_mem (l := hs) (i := i) (by omega) 0)
        refine kRegion rfl ?_
        refine lV (yLoadA (vs := [_, _, _, _, _, _, _, _]) rfl A29 (cOwn 0 rfl rfl)) rfl rfl ?_
        refine lV (yMove rfl) rfl rfl ?_
        refine lV (yCall rfl (.c rfl (.c rfl .n)) C15 (fun w hw => habit_any ⟨some ⟨nE, 0, none⟩, cE, osA g, osC g⟩ X (i : Nat) w ⟨OS.rowsE (f := rowE) (0, 0) hE hw (.c 1 rfl .n), OS.rowsE (f := rowK) look0 hS hw (.d 0 (.d 0 (.d 0 (.d 0 .r))))⟩ hn)) rfl rfl ?_
        refine same (t := 131) (u := outC (habP X i, 0)) rfl (by rw [habitE_ok hM ho hmr]; rfl) ?_
        refine lV (yMove rfl) rfl rfl ?_
        refine lV (yExtract rfl rfl) rfl rfl ?_
        refine lV (yExtract rfl rfl) rfl rfl ?_
        refine lE rfl ?_
        refine eAlloc Z24 fun n21 => ?_
        refine lE rfl ?_
        refine eStoreL 0 rfl rfl rfl rfl K24 rfl (rfl) ?_
        refine lV (yAssign rfl) rfl rfl ?_
        refine lNil ?_
        refine kThen ?_
        refine kSeq ?_
        refine kSeq ?_
        by_cases hz : hs.getD i 0 = 0
        · refine kRegion rfl ?_
          refine lV (yMove rfl) rfl rfl ?_
          refine lV (yNeq rfl rfl) rfl rfl ?_
          refine knownN (t := 135) rfl (fun h => h rfl) ?_
          refine lV (yMove rfl) rfl rfl ?_
          refine lGY rfl rfl rfl (oV (yLoadA (vs := [_, _]) rfl A24 (cOwn 0 rfl rfl)) rfl ?_)
          refine lGY rfl rfl rfl (oV (yMove rfl) rfl ?_)
          refine lGY rfl rfl rfl (oV (yCall rfl (.c rfl (.c rfl .n)) C32 (fun w hw => inside_any _ _ _ w)) rfl ?_)
          refine knownB (t := 139) (c := true) rfl (decide_eq_true hab) ?_
          refine lGY rfl rfl rfl (oV (yNot rfl) rfl ?_)
          refine lV (yPickF rfl rfl) rfl rfl ?_
          refine lV (yMove rfl) rfl rfl ?_
          refine lGY rfl rfl rfl (oV (yMove rfl) rfl ?_)
          refine lGY rfl rfl rfl (oV (yEql rfl rfl) rfl ?_)
          refine known (t := 144) rfl (hz) ?_
          refine lGY rfl rfl rfl (oV (yMove rfl) rfl ?_)
          refine lGY rfl rfl rfl (oV (yMove rfl) rfl ?_)
          refine lGY rfl rfl rfl (oV (yMove rfl) rfl ?_)
          refine lGY rfl rfl rfl (oV (yShr rfl rfl rfl (by omega)) rfl ?_)
          refine lGY rfl rfl rfl (oV (yAnd (b := 1) rfl rfl rfl (by have := Nat.div_le_self (sureN X) (2 ^ i); omega) (by have := Nat.div_le_self (sureN X) (2 ^ i); omega)) rfl ?_)
          refine lGY rfl rfl rfl (oV (yEql rfl rfl) rfl ?_)
          refine knownN (t := 150) rfl (fun h => by have h1 := (bit_iff _ i).1 h; rw [hmd.sure hme hz] at h1; cases h1) ?_
          refine lGY rfl rfl rfl (oV (yPickT rfl rfl) rfl ?_)
          refine lV (yPickF rfl rfl) rfl rfl ?_
          refine lNil ?_
          refine kThen ?_
          refine kIfF rfl ?_
          refine kSkip ?_
          refine kThen ?_
          refine kSeq ?_
          refine kSeq ?_
          refine kRegion rfl ?_
          refine lV (yMove rfl) rfl rfl ?_
          refine lV (yNeq rfl rfl) rfl rfl ?_
          refine knownN (t := 154) rfl (fun h => h hz) ?_
          refine lNil ?_
          refine kThen ?_
          refine kIfF rfl ?_
          refine kSkip ?_
          refine kThen ?_
          refine kSeq ?_
          rw [show nzC hs i = nzC hs (i + 1) from by rw [nzC_succ, if_neg (not_not_intro hz)]]
          refine kRegion rfl ?_
          refine lV (yMove rfl) rfl rfl ?_
          refine lV (yLen rfl S41) rfl rfl ?_
          refine lV (yMove rfl) rfl rfl ?_
          refine lNil ?_
          refine kThen ?_
          refine kBlock ?_
          refine kLoopX (ι := Nat) (fun k2 => k2 ≤ hs.length) (fun k2 => [(159, i64 (k2 : Nat))]) [(0, _), (34, _), (35, _), (36, _), (39, _), (40, _), (41, _), (38, _), (42, _), (43, _), (44, _), (3, _), (4, _), (5, _), (45, _), (46, _), (47, _), (48, _), (49, _), (80, _), (81, _), (79, _), (82, _), (83, _), (10, _), (11, _), (85, _), (86, _), (84, _), (87, _), (88, _), (12, _), (13, _), (90, _), (91, _), (89, _), (92, _), (93, _), (14, _), (15, _), (95, _), (96, _), (94, _), (97, _), (98, _), (16, _), (17, _), (99, _), (100, _), (101, _), (102, _), (103, _), (104, _), (105, _), (106, _), (107, _), (108, _), (109, _), (110, _), (111, _), (112, _), (113, _), (114, _), (115, _), (116, _), (117, _), (118, _), (119, _), (120, _), (121, _), (122, _), (123, _), (18, _), (124, _), (125, _), (126, _), (127, _), (19, _), (20, _), (129, _), (130, _), (131, _), (128, _), (132, _), (133, _), (21, _), (22, _), (134, _), (135, _), (136, _), (137, _), (138, _), (139, _), (140, _), (141, _), (142, _), (143, _), (144, _), (145, _), (146, _), (147, _), (148, _), (149, _), (150, _), (151, _), (152, _), (153, _), (154, _), (157, _), (158, _)] (fun k2 => []) (fun k2 => osL 47 g) [(n21, _), (n3, _), (nE, _), (nH, _), (nP, _)] (fun k2 => hs.length - k2) 0 (Nat.zero_le _) rfl (.c rfl .n) (.c rfl (.c rfl (.c rfl (.c rfl (.c rfl (.c rfl (.c rfl (.c rfl (.c rfl (.c rfl (.c rfl (.c rfl (.c rfl (.c rfl (.c rfl (.c rfl (.c rfl (.c rfl (.c rfl (.c rfl (.c rfl (.c rfl (.c rfl (.c rfl (.c rfl (.c rfl (.c rfl (.c rfl (.c rfl (.c rfl (.c rfl (.c rfl (.c rfl (.c rfl (.c rfl (.c rfl (.c rfl (.c rfl (.c rfl (.c rfl (.c rfl (.c rfl (.c rfl (.c rfl (.c rfl (.c rfl (.c rfl (.c rfl (.c rfl (.c rfl (.c rfl (.c rfl (.c rfl (.c rfl (.c rfl (.c rfl (.c rfl (.c rfl (.c rfl (.c rfl (.c rfl (.c rfl (.c rfl (.c rfl (.c rfl (.c rfl (.c rfl (.c rfl (.c rfl (.c rfl (.c rfl (.c rfl (.c rfl (.c rfl (.c rfl (.c rfl (.c rfl (.c rfl (.c rfl (.c rfl (.c rfl (.c rfl (.c rfl (.c rfl (.c rfl (.c rfl (.c rfl (.c rfl (.c rfl (.c rfl (.c rfl (.c rfl (.c rfl (.c rfl (.c rfl (.c rfl (.c rfl (.c rfl (.c rfl (.c rfl (.c rfl (.c rfl (.c rfl (.c rfl (.c rfl (.c rfl (.c rfl (.c rfl (.c rfl (.c rfl .n)))))))))))))))))))))))))))))))))))))))))))))))))))))))))))))))))))))))))))))))))))))))))))))))))))))))))))))) (.c 0 rfl (.c 0 rfl (.c 0 rfl (.c 0 rfl (.c 0 rfl .r))))) ?_
          rintro k2 hk2
          refine kSeq ?_
          refine kRegion rfl ?_
          refine lV (yLss rfl rfl) rfl rfl ?_
          refine lNil ?_
          refine kThen ?_
          refine kSeq ?_
          refine split (t := 160) rfl (fun h160 => ?_) (fun h160 => ?_)
          · refine kIfT rfl ?_
            refine kSkip ?_
            refine kThen ?_
            refine kSeq ?_
            refine kBlock ?_
            refine kSeq ?_
            refine kRegion rfl ?_
            refine lV (yMove rfl) rfl rfl ?_
            refine lV (yIndexS  rfl rfl S41 (fun w hw => OS.rowsE (f := rowV) 0 hH hw (.c 3 rfl .n)) (by omega)) rfl rfl ?_
            refine lV (yLoad1 rfl O3 (cSl0 (fun w hw => OS.rowsE (f := rowV) 0 hH hw (.c 3 rfl .n)) (by omega) rfl)) rfl rfl ?_
            refine lV (yAssign rfl) rfl rfl ?_
            refine lV (yAssign rfl) rfl rfl ?_
            refine lNil ?_
            refine kThen ?_
            refine kSeq ?_
            have hke : k2 < X.eyes.toNat := by omega
            have hkr : 0 ≤ ((k2 : Nat) : Int) ∧ ((k2 : Nat) : Int) ≤ X.eyes - 1 := by omega
            have hbe := hmd.bet hme hke
            have hbk := hmd.hb _ (getD_mem (l := hs) (i := k2) (by omega) 0)
            refine kRegion rfl ?_
            refine lV (yLoadA (vs := [_, _, _, _, _, _, _, _]) rfl A29 (cOwn 1 rfl rfl)) rfl rfl ?_
            refine lV (yMove rfl) rfl rfl ?_
            refine lV (yMove rfl) rfl rfl ?_
            refine lV (yCall rfl (.c rfl (.c rfl (.c rfl .n))) C17 (fun w hw => between_any ⟨some ⟨nE, 0, none⟩, cE, osA g, osC g⟩ X (i : Nat) (k2 : Nat) w ⟨OS.rowsE (f := rowE) (0, 0) hE hw (.c 2 rfl .n), OS.rowsE (f := rowK) look0 hS hw (.d 0 (.d 0 (.d 0 (.d 0 (.d 0 .r)))))⟩ hn)) rfl rfl ?_
            refine same (t := 168) (u := outC (betP X i k2, 0)) rfl (by rw [betwE_ok hM ho hmr hkr]; rfl) ?_
            refine lV (yMove rfl) rfl rfl ?_
            refine lV (yExtract rfl rfl) rfl rfl ?_
            refine lV (yExtract rfl rfl) rfl rfl ?_
            refine lE rfl ?_
            refine eAlloc Z24 fun n25 => ?_
            refine lE rfl ?_
            refine eStoreL 0 rfl rfl rfl rfl K24 rfl (rfl) ?_
            refine lV (yAssign rfl) rfl rfl ?_
            refine lNil ?_
            refine kThen ?_
            refine kSeq ?_
            refine kRegion rfl ?_
            refine lV (yMove rfl) rfl rfl ?_
            refine lV (yNeq rfl rfl) rfl rfl ?_
            refine knownN (t := 172) rfl (fun h => h rfl) ?_
            refine lV (yMove rfl) rfl rfl ?_
            refine lGY rfl rfl rfl (oV (yLoadA (vs := [_, _]) rfl A24 (cOwn 0 rfl rfl)) rfl ?_)
            refine lGY rfl rfl rfl (oV (yMove rfl) rfl ?_)
            refine lGY rfl rfl rfl (oV (yMove rfl) rfl ?_)
            refine lGY rfl rfl rfl (oV (ySub rfl rfl (by omega)) rfl ?_)
            refine lGY rfl rfl rfl (oV (yCall rfl (.c rfl (.c rfl .n)) C32 (fun w hw => inside_any _ _ _ w)) rfl ?_)
            refine knownB (t := 178) (c := true) rfl (decide_eq_true hbe) ?_
            refine lGY rfl rfl rfl (oV (yNot rfl) rfl ?_)
            refine lV (yPickF rfl rfl) rfl rfl ?_
            refine lNil ?_
            refine kThen ?_
            refine kIfF rfl ?_
            refine kSkip ?_
            refine kInN ?_
            refine kThen ?_
            refine kRegion rfl ?_
            refine lV (yAdd rfl rfl (by omega)) rfl rfl ?_
            refine lV (yMove rfl) rfl rfl ?_
            refine lNil ?_
            exact kRoundX (k2 + 1) (by omega) (by omega) rfl (.c rfl .n) (.c rfl (.c rfl (.c rfl (.c rfl (.c rfl (.c rfl (.c rfl (.c rfl (.c rfl (.c rfl (.c rfl (.c rfl (.c rfl (.c rfl (.c rfl (.c rfl (.c rfl (.c rfl (.c rfl (.c rfl (.c rfl (.c rfl (.c rfl (.c rfl (.c rfl (.c rfl (.c rfl (.c rfl (.c rfl (.c rfl (.c rfl (.c rfl (.c rfl (.c rfl (.c rfl (.c rfl (.c rfl (.c rfl (.c rfl (.c rfl (.c rfl (.c rfl (.c rfl (.c rfl (.c rfl (.c rfl (.c rfl (.c rfl (.c rfl (.c rfl (.c rfl (.c rfl (.c rfl (.c rfl (.c rfl (.c rfl (.c rfl (.c rfl (.c rfl (.c rfl (.c rfl (.c rfl (.c rfl (.c rfl (.c rfl (.c rfl (.c rfl (.c rfl (.c rfl (.c rfl (.c rfl (.c rfl (.c rfl (.c rfl (.c rfl (.c rfl (.c rfl (.c rfl (.c rfl (.c rfl (.c rfl (.c rfl (.c rfl (.c rfl (.c rfl (.c rfl (.c rfl (.c rfl (.c rfl (.c rfl (.c rfl (.c rfl (.c rfl (.c rfl (.c rfl (.c rfl (.c rfl (.c rfl (.c rfl (.c rfl (.c rfl (.c rfl (.c rfl (.c rfl (.c rfl (.c rfl (.c rfl (.c rfl (.c rfl (.c rfl .n)))))))))))))))))))))))))))))))))))))))))))))))))))))))))))))))))))))))))))))))))))))))))))))))))))))))))))))) (.c 1 rfl (.c 1 rfl (.c 1 rfl (.c 1 rfl (.c 1 rfl (.d 0 .r))))))
          · refine kIfF rfl ?_
            refine kExit ?_
            refine kThenX ?_
            refine kThenX ?_
            refine kInX ?_
            refine kInN ?_
            refine kThen ?_
            refine kRegion rfl ?_
            refine lV (yAdd rfl rfl (by omega)) rfl rfl ?_
            refine lV (yMove rfl) rfl rfl ?_
            refine lNil ?_
            exact kRoundX (i + 1) (by omega) (by omega) rfl (.c rfl (.c rfl .n)) (.c rfl (.c rfl (.c rfl (.c rfl (.c rfl (.c rfl (.c rfl (.c rfl (.c rfl (.c rfl (.c rfl (.c rfl (.c rfl (.c rfl (.c rfl (.c rfl (.c rfl (.c rfl (.c rfl (.c rfl (.c rfl (.c rfl (.c rfl (.c rfl (.c rfl (.c rfl (.c rfl (.c rfl (.c rfl (.c rfl (.c rfl (.c rfl (.c rfl (.c rfl (.c rfl (.c rfl (.c rfl (.c rfl (.c rfl (.c rfl (.c rfl (.c rfl (.c rfl (.c rfl (.c rfl (.c rfl (.c rfl (.c rfl (.c rfl (.c rfl (.c rfl (.c rfl (.c rfl (.c rfl (.c rfl (.c rfl (.c rfl (.c rfl (.c rfl (.c rfl (.c rfl (.c rfl (.c rfl (.c rfl (.c rfl (.c rfl (.c rfl (.c rfl (.c rfl (.c rfl (.c rfl .n))))))))))))))))))))))))))))))))))))))))))))))))))))))))))))))))))))))) (.c 1 rfl (.c 1 rfl (.c 1 rfl (.c 1 rfl (.d 0 .r)))))
        · refine kRegion rfl ?_
          refine lV (yMove rfl) rfl rfl ?_
          refine lV (yNeq rfl rfl) rfl rfl ?_
          refine knownN (t := 135) rfl (fun h => h rfl) ?_
          refine lV (yMove rfl) rfl rfl ?_
          refine lGY rfl rfl rfl (oV (yLoadA (vs := [_, _]) rfl A24 (cOwn 0 rfl rfl)) rfl ?_)
          refine lGY rfl rfl rfl (oV (yMove rfl) rfl ?_)
          refine lGY rfl rfl rfl (oV (yCall rfl (.c rfl (.c rfl .n)) C32 (fun w hw => inside_any _ _ _ w)) rfl ?_)
          refine knownB (t := 139) (c := true) rfl (decide_eq_true hab) ?_
          refine lGY rfl rfl rfl (oV (yNot rfl) rfl ?_)
          refine lV (yPickF rfl rfl) rfl rfl ?_
          refine lV (yMove rfl) rfl rfl ?_
          refine lGY rfl rfl rfl (oV (yMove rfl) rfl ?_)
          refine lGY rfl rfl rfl (oV (yEql rfl rfl) rfl ?_)
          refine knownN (t := 144) rfl (hz) ?_
          refine lGY rfl rfl rfl (oV (yMove rfl) rfl ?_)
          refine lGN rfl rfl rfl rfl rfl ?_
          refine lGN rfl rfl rfl rfl rfl ?_
          refine lGN rfl rfl rfl rfl rfl ?_
          refine lGN rfl rfl rfl rfl rfl ?_
          refine lGN rfl rfl rfl rfl rfl ?_
          refine lGY rfl rfl rfl (oV (yPickF rfl rfl) rfl ?_)
          refine lV (yPickF rfl rfl) rfl rfl ?_
          refine lNil ?_
          refine kThen ?_
          refine kIfF rfl ?_
          refine kSkip ?_
          refine kThen ?_
          refine kSeq ?_
          refine kSeq ?_
          refine kRegion rfl ?_
          refine lV (yMove rfl) rfl rfl ?_
          refine lV (yNeq rfl rfl) rfl rfl ?_
          refine known (t := 154) rfl (hz) ?_
          refine lNil ?_
          refine kThen ?_
          refine kIfT rfl ?_
          refine kRegion rfl ?_
          refine lV (yMove rfl) rfl rfl ?_
          refine lV (yAdd rfl rfl (by omega)) rfl rfl ?_
          refine same (t := 156) (u := i64 ((nzC hs (i + 1) : Nat) : Int)) rfl (congrArg i64 (by rw [nzC_succ, if_pos hz]; omega)) ?_
          refine lV (yAssign rfl) rfl rfl ?_
          refine lNil ?_
          refine kThen ?_
          refine kSeq ?_
          refine kRegion rfl ?_
          refine lV (yMove rfl) rfl rfl ?_
          refine lV (yLen rfl S41) rfl rfl ?_
          refine lV (yMove rfl) rfl rfl ?_
          refine lNil ?_
          refine kThen ?_
          refine kBlock ?_
          refine kLoopX (ι := Nat) (fun k2 => k2 ≤ hs.length) (fun k2 => [(159, i64 (k2 : Nat))]) [(0, _), (34, _), (35, _), (36, _), (39, _), (40, _), (41, _), (38, _), (42, _), (43, _), (44, _), (3, _), (4, _), (5, _), (45, _), (46, _), (47, _), (48, _), (49, _), (80, _), (81, _), (79, _), (82, _), (83, _), (10, _), (11, _), (85, _), (86, _), (84, _), (87, _), (88, _), (12, _), (13, _), (90, _), (91, _), (89, _), (92, _), (93, _), (14, _), (15, _), (95, _), (96, _), (94, _), (97, _), (98, _), (16, _), (17, _), (99, _), (100, _), (101, _), (102, _), (103, _), (104, _), (105, _), (106, _), (107, _), (108, _), (109, _), (110, _), (111, _), (112, _), (113, _), (114, _), (115, _), (116, _), (117, _), (118, _), (119, _), (120, _), (121, _), (122, _), (123, _), (18, _), (124, _), (125, _), (126, _), (127, _), (19, _), (20, _), (129, _), (130, _), (131, _), (128, _), (132, _), (133, _), (21, _), (22, _), (134, _), (135, _), (136, _), (137, _), (138, _), (139, _), (140, _), (141, _), (142, _), (143, _), (144, _), (145, _), (151, _), (152, _), (153, _), (154, _), (155, _), (156, _), (157, _), (158, _)] (fun k2 => []) (fun k2 => osL 47 g) [(n21, _), (n3, _), (nE, _), (nH, _), (nP, _)] (fun k2 => hs.length - k2) 0 (Nat.zero_le _) rfl (.c rfl .n) (.c rfl (.c rfl (.c rfl (.c rfl (.c rfl (.c rfl (.c rfl (.c rfl (.c rfl (.c rfl (.c rfl (.c rfl (.c rfl (.c rfl (.c rfl (.c rfl (.c rfl (.c rfl (.c rfl (.c rfl (.c rfl (.c rfl (.c rfl (.c rfl (.c rfl (.c rfl (.c rfl (.c rfl (.c rfl (.c rfl (.c rfl (.c rfl (.c rfl (.c rfl (.c rfl (.c rfl (.c rfl (.c rfl (.c rfl (.c rfl (.c rfl (.c rfl (.c rfl (.c rfl (.c rfl (.c rfl (.c rfl (.c rfl (.c rfl (.c rfl (.c rfl (.c rfl (.c rfl (.c rfl (.c rfl (.c rfl (.c rfl (.c rfl (.c rfl (.c rfl (.c rfl (.c rfl (.c rfl (.c rfl (.c rfl (.c rfl (.c rfl (.c rfl (.c rfl (.c rfl (.c rfl (.c rfl (.c rfl (.c rfl (.c rfl (.c rfl (.c rfl (.c rfl (.c rfl (.c rfl (.c rfl (.c rfl (.c rfl (.c rfl (.c rfl (.c rfl (.c rfl (.c rfl (.c rfl (.c rfl (.c rfl (.c rfl (.c rfl (.c rfl (.c rfl (.c rfl (.c rfl (.c rfl (.c rfl (.c rfl (.c rfl (.c rfl (.c rfl (.c rfl (.c rfl (.c rfl (.c rfl .n))))))))))))))))))))))))))))))))))))))))))))))))))))))))))))))))))))))))))))))))))))))))))))))))))))))))))) (.c 0 rfl (.c 0 rfl (.c 0 rfl (.c 0 rfl (.c 0 rfl .r))))) ?_
          rintro k2 hk2
          refine kSeq ?_
          refine kRegion rfl ?_
          refine lV (yLss rfl rfl) rfl rfl ?_
          refine lNil ?_
          refine kThen ?_
          refine kSeq ?_
          refine split (t := 160) rfl (fun h160 => ?_) (fun h160 => ?_)
          · refine kIfT rfl ?_
            refine kSkip ?_
            refine kThen ?_
            refine kSeq ?_
            refine kBlock ?_
            refine kSeq ?_
            refine kRegion rfl ?_
            refine lV (yMove rfl) rfl rfl ?_
            refine lV (yIndexS  rfl rfl S41 (fun w hw => OS.rowsE (f := rowV) 0 hH hw (.c 3 rfl .n)) (by omega)) rfl rfl ?_
            refine lV (yLoad1 rfl O3 (cSl0 (fun w hw => OS.rowsE (f := rowV) 0 hH hw (.c 3 rfl .n)) (by omega) rfl)) rfl rfl ?_
            refine lV (yAssign rfl) rfl rfl ?_
            refine lV (yAssign rfl) rfl rfl ?_
            refine lNil ?_
            refine kThen ?_
            refine kSeq ?_
            have hke : k2 < X.eyes.toNat := by omega
            have hkr : 0 ≤ ((k2 : Nat) : Int) ∧ ((k2 : Nat) : Int) ≤ X.eyes - 1 := by omega
            have hbe := hmd.bet hme hke
            have hbk := hmd.hb _ (getD_mem (l := hs) (i := k2) (by omega) 0)
            refine kRegion rfl ?_
            refine lV (yLoadA (vs := [_, _, _, _, _, _, _, _]) rfl A29 (cOwn 1 rfl rfl)) rfl rfl ?_
            refine lV (yMove rfl) rfl rfl ?_
            refine lV (yMove rfl) rfl rfl ?_
            refine lV (yCall rfl (.c rfl (.c rfl (.c rfl .n))) C17 (fun w hw => between_any ⟨some ⟨nE, 0, none⟩, cE, osA g, osC g⟩ X (i : Nat) (k2 : Nat) w ⟨OS.rowsE (f := rowE) (0, 0) hE hw (.c 2 rfl .n), OS.rowsE (f := rowK) look0 hS hw (.d 0 (.d 0 (.d 0 (.d 0 (.d 0 .r)))))⟩ hn)) rfl rfl ?_
            refine same (t := 168) (u := outC (betP X i k2, 0)) rfl (by rw [betwE_ok hM ho hmr hkr]; rfl) ?_
            refine lV (yMove rfl) rfl rfl ?_
            refine lV (yExtract rfl rfl) rfl rfl ?_
            refine lV (yExtract rfl rfl) rfl rfl ?_
            refine lE rfl ?_
            refine eAlloc Z24 fun n25 => ?_
            refine lE rfl ?_
            refine eStoreL 0 rfl rfl rfl rfl K24 rfl (rfl) ?_
            refine lV (yAssign rfl) rfl rfl ?_
            refine lNil ?_
            refine kThen ?_
            refine kSeq ?_
            refine kRegion rfl ?_
            refine lV (yMove rfl) rfl rfl ?_
            refine lV (yNeq rfl rfl) rfl rfl ?_
            refine knownN (t := 172) rfl (fun h => h rfl) ?_
            refine lV (yMove rfl) rfl rfl ?_
            refine lGY rfl rfl rfl (oV (yLoadA (vs := [_, _]) rfl A24 (cOwn 0 rfl rfl)) rfl ?_)
            refine lGY rfl rfl rfl (oV (yMove rfl) rfl ?_)
            refine lGY rfl rfl rfl (oV (yMove rfl) rfl ?_)
            refine lGY rfl rfl rfl (oV (ySub rfl rfl (by omega)) rfl ?_)
            refine lGY rfl rfl rfl (oV (yCall rfl (.c rfl (.c rfl .n)) C32 (fun w hw => inside_any _ _ _ w)) rfl ?_)
            refine knownB (t := 178) (c := true) rfl (decide_eq_true hbe) ?_
            refine lGY rfl rfl rfl (oV (yNot rfl) rfl ?_)
            refine lV (yPickF rfl rfl) rfl rfl ?_
            refine lNil ?_
            refine kThen ?_
            refine kIfF rfl ?_
            refine kSkip ?_
            refine kInN ?_
            refine kThen ?_
            refine kRegion rfl ?_
            refine lV (yAdd rfl rfl (by omega)) rfl rfl ?_
            refine lV (yMove rfl) rfl rfl ?_
            refine lNil ?_
            exact kRoundX (k2 + 1) (by omega) (by omega) rfl (.c rfl .n) (.c rfl (.c rfl (.c rfl (.c rfl (.c rfl (.c rfl (.c rfl (.c rfl (.c rfl (.c rfl (.c rfl (.c rfl (.c rfl (.c rfl (.c rfl (.c rfl (.c rfl (.c rfl (.c rfl (.c rfl (.c rfl (.c rfl (.c rfl (.c rfl (.c rfl (.c rfl (.c rfl (.c rfl (.c rfl (.c rfl (.c rfl (.c rfl (.c rfl (.c rfl (.c rfl (.c rfl (.c rfl (.c rfl (.c rfl (.c rfl (.c rfl (.c rfl (.c rfl (.c rfl (.c rfl (.c rfl (.c rfl (.c rfl (.c rfl (.c rfl (.c rfl (.c rfl (.c rfl (.c rfl (.c rfl (.c rfl (.c rfl (.c rfl (.c rfl (.c rfl (.c rfl (.c rfl (.c rfl (.c rfl (.c rfl (.c rfl (.c rfl (.c rfl (.c rfl (.c rfl (.c rfl (.c rfl (.c rfl (.c rfl (.c rfl (.c rfl (.c rfl (.c rfl (.c rfl (.c rfl (.c rfl (.c rfl (.c rfl (.c rfl (.c rfl (.c rfl (.c rfl (.c rfl (.c rfl (.c rfl (.c rfl (.c rfl (.c rfl (.c rfl (.c rfl (.c rfl (.c rfl (.c rfl (.c rfl (.c rfl (.c rfl (.c rfl (.c rfl (.c rfl (.c rfl (.c rfl (.c rfl .n))))))))))))))))))))))))))))))))))))))))))))))))))))))))))))))))))))))))))))))))))))))))))))))))))))))))))) (.c 1 rfl (.c 1 rfl (.c 1 rfl (.c 1 rfl (.c 1 rfl (.d 0 .r))))))
          · refine kIfF rfl ?_
            refine kExit ?_
            refine kThenX ?_
            refine kThenX ?_
            refine kInX ?_
            refine kInN ?_
            refine kThen ?_
            refine kRegion rfl ?_
            refine lV (yAdd rfl rfl (by omega)) rfl rfl ?_
            refine lV (yMove rfl) rfl rfl ?_
            refine lNil ?_
            exact kRoundX (i + 1) (by omega) (by omega) rfl (.c rfl (.c rfl .n)) (.c rfl (.c rfl (.c rfl (.c rfl (.c rfl (.c rfl (.c rfl (.c rfl (.c rfl (.c rfl (.c rfl (.c rfl (.c rfl (.c rfl (.c rfl (.c rfl (.c rfl (.c rfl (.c rfl (.c rfl (.c rfl (.c rfl (.c rfl (.c rfl (.c rfl (.c rfl (.c rfl (.c rfl (.c rfl (.c rfl (.c rfl (.c rfl (.c rfl (.c rfl (.c rfl (.c rfl (.c rfl (.c rfl (.c rfl (.c rfl (.c rfl (.c rfl (.c rfl (.c rfl (.c rfl (.c rfl (.c rfl (.c rfl (.c rfl (.c rfl (.c rfl (.c rfl (.c rfl (.c rfl (.c rfl (.c rfl (.c rfl (.c rfl (.c rfl (.c rfl (.c rfl (.c rfl (.c rfl (.c rfl (.c rfl (.c rfl (.c rfl (.c rfl (.c rfl (.c rfl (.c rfl .n))))))))))))))))))))))))))))))))))))))))))))))))))))))))))))))))))))))) (.c 1 rfl (.c 1 rfl (.c 1 rfl (.c 1 rfl (.d 0 .r)))))
      · refine kIfF rfl ?_
        refine kExit ?_
        refine kThenX ?_
        refine kThenX ?_
        refine kInX ?_
        refine kThen ?_
        refine kSeq ?_
        refine kSeq ?_
        refine kRegion rfl ?_
        refine lV (yMove rfl) rfl rfl ?_
        refine lV (yLen rfl S41) rfl rfl ?_
        refine lV (yMove rfl) rfl rfl ?_
        refine lNil ?_
        refine kThen ?_
        refine kBlock ?_
        refine kLoopX (ι := Nat) (fun i3 => i3 ≤ ps.length) (fun i3 => [(185, i64 (i3 : Nat))]) [(0, _), (34, _), (35, _), (36, _), (39, _), (40, _), (41, _), (38, _), (42, _), (43, _), (44, _), (3, _), (4, _), (5, _), (45, _), (46, _), (47, _), (48, _), (49, _), (80, _), (81, _), (79, _), (82, _), (83, _), (10, _), (11, _), (85, _), (86, _), (84, _), (87, _), (88, _), (12, _), (13, _), (90, _), (91, _), (89, _), (92, _), (93, _), (14, _), (15, _), (95, _), (96, _), (94, _), (97, _), (98, _), (16, _), (17, _), (99, _), (100, _), (101, _), (102, _), (103, _), (104, _), (105, _), (106, _), (107, _), (108, _), (109, _), (110, _), (111, _), (112, _), (113, _), (114, _), (115, _), (116, _), (117, _), (118, _), (119, _), (120, _), (121, _), (122, _), (123, _), (18, _), (124, _), (183, _), (184, _)] (fun i3 => []) (fun i3 => osL 47 g) [(n3, _), (nE, _), (nH, _), (nP, _)] (fun i3 => ps.length - i3) 0 (Nat.zero_le _) rfl (.c rfl .n) (.c rfl (.c rfl (.c rfl (.c rfl (.c rfl (.c rfl (.c rfl (.c rfl (.c rfl (.c rfl (.c rfl (.c rfl (.c rfl (.c rfl (.c rfl (.c rfl (.c rfl (.c rfl (.c rfl (.c rfl (.c rfl (.c rfl (.c rfl (.c rfl (.c rfl (.c rfl (.c rfl (.c rfl (.c rfl (.c rfl (.c rfl (.c rfl (.c rfl (.c rfl (.c rfl (.c rfl (.c rfl (.c rfl (.c rfl (.c rfl (.c rfl (.c rfl (.c rfl (.c rfl (.c rfl (.c rfl (.c rfl (.c rfl (.c rfl (.c rfl (.c rfl (.c rfl (.c rfl (.c rfl (.c rfl (.c rfl (.c rfl (.c rfl (.c rfl (.c rfl (.c rfl (.c rfl (.c rfl (.c rfl (.c rfl (.c rfl (.c rfl (.c rfl (.c rfl (.c rfl (.c rfl (.c rfl (.c rfl (.c rfl (.c rfl (.c rfl .n)))))))))))))))))))))))))))))))))))))))))))))))))))))))))))))))))))))))))))) (.c 0 rfl (.c 0 rfl (.c 0 rfl (.c 0 rfl .r)))) ?_
        rintro i3 hi3
        refine kSeq ?_
        refine kRegion rfl ?_
        refine lV (yLss rfl rfl) rfl rfl ?_
        refine lNil ?_
        refine kThen ?_
        refine kSeq ?_
        refine split (t := 186) rfl (fun h186 => ?_) (fun h186 => ?_)
        · refine kIfT rfl ?_
          refine kSkip ?_
          refine kThen ?_
          refine kSeq ?_
          refine kBlock ?_
          refine kSeq ?_
          refine kRegion rfl ?_
          refine lV (yMove rfl) rfl rfl ?_
          refine lV (yIndexS  rfl rfl S41 (fun w hw => OS.rowsE (f := rowV) 0 hP hw (.c 3 rfl .n)) (by omega)) rfl rfl ?_
          refine lV (yLoad1 rfl O3 (cSl0 (fun w hw => OS.rowsE (f := rowV) 0 hP hw (.c 3 rfl .n)) (by omega) rfl)) rfl rfl ?_
          refine lV (yAssign rfl) rfl rfl ?_
          refine lV (yAssign rfl) rfl rfl ?_
          refine lNil ?_
          refine kThen ?_
          refine kSeq ?_
          refine kRegion rfl ?_
          refine lV (yAssign rfl) rfl rfl ?_
          refine lNil ?_
          refine kThen ?_
          refine kSeq ?_
          refine kSeq ?_
          refine kRegion rfl ?_
          refine lV (yFieldAddr rfl F29_4) rfl rfl ?_
          refine lV (yLoad1 rfl O27 (cOwn 0 rfl rfl)) rfl rfl ?_
          refine lV (yLen rfl S27) rfl rfl ?_
          refine lV (yMove rfl) rfl rfl ?_
          refine lNil ?_
          refine kThen ?_
          refine kBlock ?_
          refine kLoopX (ι := Nat × Bool) (fun x => x.1 ≤ X.looks.length ∧ x.2 = seenB X i3 x.1) (fun x => [(193, i64 (x.1 : Nat)), (29, .bool x.2)]) [(0, _), (34, _), (35, _), (36, _), (39, _), (40, _), (41, _), (38, _), (42, _), (43, _), (44, _), (3, _), (4, _), (5, _), (45, _), (46, _), (47, _), (48, _), (49, _), (80, _), (81, _), (79, _), (82, _), (83, _), (10, _), (11, _), (85, _), (86, _), (84, _), (87, _), (88, _), (12, _), (13, _), (90, _), (91, _), (89, _), (92, _), (93, _), (14, _), (15, _), (95, _), (96, _), (94, _), (97, _), (98, _), (16, _), (17, _), (99, _), (100, _), (101, _), (102, _), (103, _), (104, _), (105, _), (106, _), (107, _), (108, _), (109, _), (110, _), (111, _), (112, _), (113, _), (114, _), (115, _), (116, _), (117, _), (118, _), (119, _), (120, _), (121, _), (122, _), (123, _), (18, _), (124, _), (183, _), (184, _), (185, _), (186, _), (187, _), (188, _), (189, _), (27, _), (28, _), (190, _), (191, _), (192, _)] (fun x => []) (fun x => osL 47 g) [(n3, _), (nE, _), (nH, _), (nP, _)] (fun x => X.looks.length - x.1) (0, false) (⟨Nat.zero_le _, rfl⟩) rfl (.c rfl (.c rfl .n)) (.c rfl (.c rfl (.c rfl (.c rfl (.c rfl (.c rfl (.c rfl (.c rfl (.c rfl (.c rfl (.c rfl (.c rfl (.c rfl (.c rfl (.c rfl (.c rfl (.c rfl (.c rfl (.c rfl (.c rfl (.c rfl (.c rfl (.c rfl (.c rfl (.c rfl (.c rfl (.c rfl (.c rfl (.c rfl (.c rfl (.c rfl (.c rfl (.c rfl (.c rfl (.c rfl (.c rfl (.c rfl (.c rfl (.c rfl (.c rfl (.c rfl (.c rfl (.c rfl (.c rfl (.c rfl (.c rfl (.c rfl (.c rfl (.c rfl (.c rfl (.c rfl (.c rfl (.c rfl (.c rfl (.c rfl (.c rfl (.c rfl (.c rfl (.c rfl (.c rfl (.c rfl (.c rfl (.c rfl (.c rfl (.c rfl (.c rfl (.c rfl (.c rfl (.c rfl (.c rfl (.c rfl (.c rfl (.c rfl (.c rfl (.c rfl (.c rfl (.c rfl (.c rfl (.c rfl (.c rfl (.c rfl (.c rfl (.c rfl (.c rfl (.c rfl (.c rfl .n)))))))))))))))))))))))))))))))))))))))))))))))))))))))))))))))))))))))))))))))))))))) (.c 0 rfl (.c 0 rfl (.c 0 rfl (.c 0 rfl .r)))) ?_
          rintro ⟨k3, sb⟩ ⟨hk3, hsb⟩
          dsimp only at hk3 hsb ⊢
          refine kSeq ?_
          refine kRegion rfl ?_
          refine lV (yLss rfl rfl) rfl rfl ?_
          refine lNil ?_
          refine kThen ?_
          refine kSeq ?_
          refine split (t := 194) rfl (fun h194 => ?_) (fun h194 => ?_)
          · refine kIfT rfl ?_
            refine kSkip ?_
            refine kThen ?_
            refine kSeq ?_
            refine kBlock ?_
            refine kSeq ?_
            refine kRegion rfl ?_
            refine lV (yIndexS  rfl rfl S27 (fun w hw => OS.rowsE (f := rowK) look0 hS hw (.d 0 (.d 0 (.d 0 (.d 0 .r))))) (by omega)) rfl rfl ?_
            refine lV (yLoadA (vs := [_, _, _]) rfl A47 (cSl0 (fun w hw => OS.rowsE (f := rowK) look0 hS hw (.d 0 (.d 0 (.d 0 (.d 0 .r))))) (by omega) rfl)) rfl rfl ?_
            refine lE rfl ?_
            refine eAlloc Z47 fun n31 => ?_
            refine lE rfl ?_
            refine eStoreL 0 rfl rfl rfl rfl K47 rfl (rfl) ?_
            refine lNil ?_
            refine kThen ?_
            refine kRegion rfl ?_
            refine lV (yMove rfl) rfl rfl ?_
            refine lV (yMove rfl) rfl rfl ?_
            refine splitB (t := 198) rfl (fun h198 => ?_) (fun h198 => ?_)
            · refine lGN rfl rfl rfl rfl rfl ?_
              refine lGN rfl rfl rfl rfl rfl ?_
              refine lGN rfl rfl rfl rfl rfl ?_
              refine lGN rfl rfl rfl rfl rfl ?_
              refine lV (yPickT rfl rfl) rfl rfl ?_
              refine lV (yAssign rfl) rfl rfl ?_
              refine lNil ?_
              refine kInN ?_
              refine kThen ?_
              refine kRegion rfl ?_
              refine lV (yAdd rfl rfl (by omega)) rfl rfl ?_
              refine lV (yMove rfl) rfl rfl ?_
              refine lNil ?_
              exact kRoundX (k3 + 1, true) (⟨by dsimp only; omega, by dsimp only; rw [seenB_succ, ← hsb, h198]; rfl⟩) (by dsimp only; omega) rfl (.c rfl (.c rfl .n)) (.c rfl (.c rfl (.c rfl (.c rfl (.c rfl (.c rfl (.c rfl (.c rfl (.c rfl (.c rfl (.c rfl (.c rfl (.c rfl (.c rfl (.c rfl (.c rfl (.c rfl (.c rfl (.c rfl (.c rfl (.c rfl (.c rfl (.c rfl (.c rfl (.c rfl (.c rfl (.c rfl (.c rfl (.c rfl (.c rfl (.c rfl (.c rfl (.c rfl (.c rfl (.c rfl (.c rfl (.c rfl (.c rfl (.c rfl (.c rfl (.c rfl (.c rfl (.c rfl (.c rfl (.c rfl (.c rfl (.c rfl (.c rfl (.c rfl (.c rfl (.c rfl (.c rfl (.c rfl (.c rfl (.c rfl (.c rfl (.c rfl (.c rfl (.c rfl (.c rfl (.c rfl (.c rfl (.c rfl (.c rfl (.c rfl (.c rfl (.c rfl (.c rfl (.c rfl (.c rfl (.c rfl (.c rfl (.c rfl (.c rfl (.c rfl (.c rfl (.c rfl (.c rfl (.c rfl (.c rfl (.c rfl (.c rfl (.c rfl (.c rfl (.c rfl (.c rfl .n)))))))))))))))))))))))))))))))))))))))))))))))))))))))))))))))))))))))))))))))))))))) (.c 1 rfl (.c 1 rfl (.c 1 rfl (.c 1 rfl (.d 0 .r)))))
            · refine lGY rfl rfl rfl (oV (yFieldAddr rfl F47_1) rfl ?_)
              refine lGY rfl rfl rfl (oV (yLoad1 rfl O3 (cOwn 0 rfl rfl)) rfl ?_)
              refine lGY rfl rfl rfl (oV (yMove rfl) rfl ?_)
              refine lGY rfl rfl rfl (oV (yEql rfl rfl) rfl ?_)
              refine lV (yPickF rfl rfl) rfl rfl ?_
              refine lV (yAssign rfl) rfl rfl ?_
              refine lNil ?_
              refine kInN ?_
              refine kThen ?_
              refine kRegion rfl ?_
              refine lV (yAdd rfl rfl (by omega)) rfl rfl ?_
              refine lV (yMove rfl) rfl rfl ?_
              refine lNil ?_
              exact kRoundX (k3 + 1, decide ((lkAt X k3).2.1 = (i3 : Nat))) (⟨by dsimp only; omega, by dsimp only; rw [seenB_succ, ← hsb, h198]; rfl⟩) (by dsimp only; omega) rfl (.c rfl (.c rfl .n)) (.c rfl (.c rfl (.c rfl (.c rfl (.c rfl (.c rfl (.c rfl (.c rfl (.c rfl (.c rfl (.c rfl (.c rfl (.c rfl (.c rfl (.c rfl (.c rfl (.c rfl (.c rfl (.c rfl (.c rfl (.c rfl (.c rfl (.c rfl (.c rfl (.c rfl (.c rfl (.c rfl (.c rfl (.c rfl (.c rfl (.c rfl (.c rfl (.c rfl (.c rfl (.c rfl (.c rfl (.c rfl (.c rfl (.c rfl (.c rfl (.c rfl (.c rfl (.c rfl (.c rfl (.c rfl (.c rfl (.c rfl (.c rfl (.c rfl (.c rfl (.c rfl (.c rfl (.c rfl (.c rfl (.c rfl (.c rfl (.c rfl (.c rfl (.c rfl (.c rfl (.c rfl (.c rfl (.c rfl (.c rfl (.c rfl (.c rfl (.c rfl (.c rfl (.c rfl (.c rfl (.c rfl (.c rfl (.c rfl (.c rfl (.c rfl (.c rfl (.c rfl (.c rfl (.c rfl (.c rfl (.c rfl (.c rfl (.c rfl (.c rfl (.c rfl (.c rfl .n)))))))))))))))))))))))))))))))))))))))))))))))))))))))))))))))))))))))))))))))))))))) (.c 1 rfl (.c 1 rfl (.c 1 rfl (.c 1 rfl (.d 0 .r)))))
          · refine kIfF rfl ?_
            refine kExit ?_
            refine kThenX ?_
            refine kThenX ?_
            refine kInX ?_
            refine kThen ?_
            refine kSeq ?_
            by_cases hsn : seenI X i3
            · have hpr : 0 ≤ ((i3 : Nat) : Int) ∧ ((i3 : Nat) : Int) ≤ X.images - 1 := by omega
              obtain rfl : k3 = X.looks.length := by omega
              refine kRegion rfl ?_
              refine lV (yLoadA (vs := [_, _, _, _, _, _, _, _]) rfl A29 (cOwn 0 rfl rfl)) rfl rfl ?_
              refine lV (yMove rfl) rfl rfl ?_
              refine lV (yCall rfl (.c rfl (.c rfl .n)) C19 (fun w hw => place_any ⟨some ⟨nE, 0, none⟩, cE, osA g, osC g⟩ X (i3 : Nat) w ⟨OS.rowsE (f := rowE) (0, 0) hE hw (.c 1 rfl .n), OS.rowsE (f := rowK) look0 hS hw (.d 0 (.d 0 (.d 0 (.d 0 .r))))⟩ hn)) rfl rfl ?_
              refine same (t := 208) (u := outC (plaP X i3, 0)) rfl (by rw [placeE_ok hM ho hpr hsn]; rfl) ?_
              refine lV (yMove rfl) rfl rfl ?_
              refine lV (yExtract rfl rfl) rfl rfl ?_
              refine lV (yExtract rfl rfl) rfl rfl ?_
              refine lE rfl ?_
              refine eAlloc Z24 fun n32 => ?_
              refine lE rfl ?_
              refine eStoreL 0 rfl rfl rfl rfl K24 rfl (rfl) ?_
              refine lV (yAssign rfl) rfl rfl ?_
              refine lNil ?_
              refine kThen ?_
              refine kSeq ?_
              refine kRegion rfl ?_
              refine lV (yMove rfl) rfl rfl ?_
              refine knownB (t := 211) (c := true) rfl (hsb.trans ((seenB_iff hM i3).2 hsn)) ?_
              refine lV (yNot rfl) rfl rfl ?_
              refine lV (yMove rfl) rfl rfl ?_
              refine lGN rfl rfl rfl rfl rfl ?_
              refine lGN rfl rfl rfl rfl rfl ?_
              refine lV (yPickF rfl rfl) rfl rfl ?_
              refine lV (yMove rfl) rfl rfl ?_
              refine lGY rfl rfl rfl (oV (yMove rfl) rfl ?_)
              refine knownB (t := 218) (c := true) rfl (hsb.trans ((seenB_iff hM i3).2 hsn)) ?_
              refine lGY rfl rfl rfl (oV (yMove rfl) rfl ?_)
              refine lGY rfl rfl rfl (oV (yMove rfl) rfl ?_)
              refine lGY rfl rfl rfl (oV (yNeq rfl rfl) rfl ?_)
              refine knownN (t := 221) rfl (fun h => h rfl) ?_
              refine lGY rfl rfl rfl (oV (yMove rfl) rfl ?_)
              refine lGY rfl rfl rfl (oV (yLoadA (vs := [_, _]) rfl A24 (cOwn 0 rfl rfl)) rfl ?_)
              refine lGY rfl rfl rfl (oV (yMove rfl) rfl ?_)
              refine lGY rfl rfl rfl (oV (yCall rfl (.c rfl (.c rfl .n)) C32 (fun w hw => inside_any _ _ _ w)) rfl ?_)
              refine knownB (t := 225) (c := true) rfl (decide_eq_true (hmd.pla hsn)) ?_
              refine lGY rfl rfl rfl (oV (yNot rfl) rfl ?_)
              refine lGY rfl rfl rfl (oV (yPickF rfl rfl) rfl ?_)
              refine lGY rfl rfl rfl (oV (yPickT rfl rfl) rfl ?_)
              refine lV (yPickF rfl rfl) rfl rfl ?_
              refine lNil ?_
              refine kThen ?_
              refine kIfF rfl ?_
              refine kSkip ?_
              refine kInN ?_
              refine kThen ?_
              refine kRegion rfl ?_
              refine lV (yAdd rfl rfl (by omega)) rfl rfl ?_
              refine lV (yMove rfl) rfl rfl ?_
              refine lNil ?_
              exact kRoundX (i3 + 1) (by omega) (by omega) rfl (.c rfl .n) (.c rfl (.c rfl (.c rfl (.c rfl (.c rfl (.c rfl (.c rfl (.c rfl (.c rfl (.c rfl (.c rfl (.c rfl (.c rfl (.c rfl (.c rfl (.c rfl (.c rfl (.c rfl (.c rfl (.c rfl (.c rfl (.c rfl (.c rfl (.c rfl (.c rfl (.c rfl (.c rfl (.c rfl (.c rfl (.c rfl (.c rfl (.c rfl (.c rfl (.c rfl (.c rfl (.c rfl (.c rfl (.c rfl (.c rfl (.c rfl (.c rfl (.c rfl (.c rfl (.c rfl (.c rfl (.c rfl (.c rfl (.c rfl (.c rfl (.c rfl (.c rfl (.c rfl (.c rfl (.c rfl (.c rfl (.c rfl (.c rfl (.c rfl (.c rfl (.c rfl (.c rfl (.c rfl (.c rfl (.c rfl (.c rfl (.c rfl (.c rfl (.c rfl (.c rfl (.c rfl (.c rfl (.c rfl (.c rfl (.c rfl (.c rfl (.c rfl .n)))))))))))))))))))))))))))))))))))))))))))))))))))))))))))))))))))))))))))) (.c 1 rfl (.c 1 rfl (.c 1 rfl (.c 1 rfl (.d 0 .r)))))
            · have hpr : 0 ≤ ((i3 : Nat) : Int) ∧ ((i3 : Nat) : Int) ≤ X.images - 1 := by omega
              obtain rfl : k3 = X.looks.length := by omega
              refine kRegion rfl ?_
              refine lV (yLoadA (vs := [_, _, _, _, _, _, _, _]) rfl A29 (cOwn 0 rfl rfl)) rfl rfl ?_
              refine lV (yMove rfl) rfl rfl ?_
              refine lV (yCall rfl (.c rfl (.c rfl .n)) C19 (fun w hw => place_any ⟨some ⟨nE, 0, none⟩, cE, osA g, osC g⟩ X (i3 : Nat) w ⟨OS.rowsE (f := rowE) (0, 0) hE hw (.c 1 rfl .n), OS.rowsE (f := rowK) look0 hS hw (.d 0 (.d 0 (.d 0 (.d 0 .r))))⟩ hn)) rfl rfl ?_
              refine same (t := 208) (u := outC ((0, 0), 12)) rfl (by rw [placeE_doubt hM ho hpr hsn]) ?_
              refine lV (yMove rfl) rfl rfl ?_
              refine lV (yExtract rfl rfl) rfl rfl ?_
              refine lV (yExtract rfl rfl) rfl rfl ?_
              refine lE rfl ?_
              refine eAlloc Z24 fun n32 => ?_
              refine lE rfl ?_
              refine eStoreL 0 rfl rfl rfl rfl K24 rfl (rfl) ?_
              refine lV (yAssign rfl) rfl rfl ?_
              refine lNil ?_
              refine kThen ?_
              refine kSeq ?_
              refine kRegion rfl ?_
              refine lV (yMove rfl) rfl rfl ?_
              refine knownB (t := 211) (c := false) rfl (hsb.trans (Bool.eq_false_iff.2 fun h => hsn ((seenB_iff hM i3).1 h))) ?_
              refine lV (yNot rfl) rfl rfl ?_
              refine lV (yMove rfl) rfl rfl ?_
              refine lGY rfl rfl rfl (oV (yMove rfl) rfl ?_)
              refine lGY rfl rfl rfl (oV (yNeq rfl rfl) rfl ?_)
              refine knownN (t := 215) rfl (fun h => h rfl) ?_
              refine lV (yPickT rfl rfl) rfl rfl ?_
              refine lV (yMove rfl) rfl rfl ?_
              refine lGY rfl rfl rfl (oV (yMove rfl) rfl ?_)
              refine knownB (t := 218) (c := false) rfl (hsb.trans (Bool.eq_false_iff.2 fun h => hsn ((seenB_iff hM i3).1 h))) ?_
              refine lGY rfl rfl rfl (oV (yMove rfl) rfl ?_)
              refine lGN rfl rfl rfl rfl rfl ?_
              refine lGN rfl rfl rfl rfl rfl ?_
              refine lGN rfl rfl rfl rfl rfl ?_
              refine lGU rfl rfl rfl rfl ?_
              refine lGU rfl rfl rfl rfl ?_
              refine lGU rfl rfl rfl rfl ?_
              refine lGU rfl rfl rfl rfl ?_
              refine lGN rfl rfl rfl rfl rfl ?_
              refine lGY rfl rfl rfl (oV (yPickF rfl rfl) rfl ?_)
              refine lV (yPickF rfl rfl) rfl rfl ?_
              refine lNil ?_
              refine kThen ?_
              refine kIfF rfl ?_
              refine kSkip ?_
              refine kInN ?_
              refine kThen ?_
              refine kRegion rfl ?_
              refine lV (yAdd rfl rfl (by omega)) rfl rfl ?_
              refine lV (yMove rfl) rfl rfl ?_
              refine lNil ?_
              exact kRoundX (i3 + 1) (by omega) (by omega) rfl (.c rfl .n) (.c rfl (.c rfl (.c rfl (.c rfl (.c rfl (.c rfl (.c rfl (.c rfl (.c rfl (.c rfl (.c rfl (.c rfl (.c rfl (.c rfl (.c rfl (.c rfl (.c rfl (.c rfl (.c rfl (.c rfl (.c rfl (.c rfl (.c rfl (.c rfl (.c rfl (.c rfl (.c rfl (.c rfl (.c rfl (.c rfl (.c rfl (.c rfl (.c rfl (.c rfl (.c rfl (.c rfl (.c rfl (.c rfl (.c rfl (.c rfl (.c rfl (.c rfl (.c rfl (.c rfl (.c rfl (.c rfl (.c rfl (.c rfl (.c rfl (.c rfl (.c rfl (.c rfl (.c rfl (.c rfl (.c rfl (.c rfl (.c rfl (.c rfl (.c rfl (.c rfl (.c rfl (.c rfl (.c rfl (.c rfl (.c rfl (.c rfl (.c rfl (.c rfl (.c rfl (.c rfl (.c rfl (.c rfl (.c rfl (.c rfl (.c rfl (.c rfl .n)))))))))))))))))))))))))))))))))))))))))))))))))))))))))))))))))))))))))))) (.c 1 rfl (.c 1 rfl (.c 1 rfl (.c 1 rfl (.d 0 .r)))))
        · refine kIfF rfl ?_
          refine kExit ?_
          refine kThenX ?_
          refine kThenX ?_
          refine kInX ?_
          refine kThen ?_
          refine kSeq ?_
          have hex := hmd.expl
          obtain rfl : i = hs.length := by omega
          rw [← hlh] at hex
          refine kRegion rfl ?_
          refine lV (yMove rfl) rfl rfl ?_
          refine lV (yMove rfl) rfl rfl ?_
          refine lV (yAndNot rfl rfl rfl (by omega) (by omega)) rfl rfl ?_
          refine lV (yEql rfl rfl) rfl rfl ?_
          refine known (t := 234) rfl (by
          have : less (sureN X) (explN X) = 0 := Nat.eq_of_testBit_eq fun i => by
            rw [less_bit, Nat.zero_testBit]
            cases hs : (sureN X).testBit i with
            | false => rfl
            | true => rw [sure_expl hM ho hs ef.can]; rfl
          rw [this]; rfl) ?_
          refine lV (yMove rfl) rfl rfl ?_
          refine lGY rfl rfl rfl (oV (yMove rfl) rfl ?_)
          refine lGY rfl rfl rfl (oV (yCall rfl (.c rfl .n) C33 (fun w hw => rsize_any (explN X) w (by omega))) rfl ?_)
          refine lGY rfl rfl rfl (oV (yMove rfl) rfl ?_)
          refine lGY rfl rfl rfl (oV (yLeq rfl rfl) rfl ?_)
          refine known (t := 239) rfl (by omega) ?_
          refine lV (yPickT rfl rfl) rfl rfl ?_
          refine lV (yMove rfl) rfl rfl ?_
          refine lGY rfl rfl rfl (oV (yCall rfl .n C14 (fun w hw => awake_any w)) rfl ?_)
          refine lV (yPickT rfl rfl) rfl rfl ?_
          refine lV (yAssign rfl) rfl rfl ?_
          refine lNil ?_
          refine kThen ?_
          refine kRet ?_
          refine fRet rfl (.t rfl .n) (endRet ?_)
          first | rfl | (simp [packV, *]; done)
end Go.Proofs.Ytiaaidcdoenloaa
