/-
  Walk: ScrewTrue.
-/
import Derived.Test.YtoefcofplkbnkaaRk
namespace Go.Proofs.Ytoefcofplkbnkaa
open ZW

theorem forgetM {W w w' : World} {M2 L L2 : Heap} (h : Eff W [] L w) (k : Eff w M2 L2 w') (hm : ∀ p ∈ M2, W.heap.size ≤ p.1) : Eff W [] L2 w' := by
  refine ⟨k.os.trans h.os, k.tape.trans h.tape, k.output.trans h.output, Nat.le_trans h.size k.size, fun j hj _ => ?_, fun p hp => k.own p (by simp at hp; simp [hp]), fun p hp => Nat.le_trans h.size (k.new p hp), fun p hp => by simp at hp, ?_⟩
  · rw [k.frame j (Nat.lt_of_lt_of_le hj h.size) fun p hp e => by have := hm p hp; omega]
    exact h.frame j hj (by simp)
  · have := k.nd
    rw [List.map_append, List.nodup_append] at this
    simpa using this.2.1
theorem two_new {W w : World} {na nb : Nat} {o o' o2 o3 : Obj} (hw : Eff W [] [(na, o), (nb, o')] w) : ∀ p ∈ ([(na, o2), (nb, o3)] : Heap), W.heap.size ≤ p.1 := by
  intro p hp
  simp only [List.mem_cons, List.not_mem_nil, or_false] at hp
  rcases hp with rfl | rfl
  · exact hw.new (na, o) (by simp)
  · exact hw.new (nb, o') (by simp)
theorem drawOk_of {W w : World} {na nb : Nat} {a : Option Addr} {l : List Nat} {o o' : Obj} (hw : Eff W [] [(na, o), (nb, o')] w) (hs : SlE W a l.length 1 (l16C l)) (h0 : 0 < l.length) (hq : ∀ x ∈ l, x < 65536) : DrawOk na nb a l := by
  have h1 : W.heap.size ≤ na := hw.new (na, o) (by simp)
  have h2 : W.heap.size ≤ nb := hw.new (nb, o') (by simp)
  have hnd := hw.nd
  simp at hnd
  have hb : sblk a < W.heap.size := by
    have h3 := hs.cell 0 0 h0 (by decide)
    exact World.block_lt_of_cell? W ⟨sblk a, _, none⟩ (h3.trans rfl)
  exact ⟨hnd, by omega, by omega, h0, hq⟩
set_option maxRecDepth 100000 in
theorem draws_any (a : Option Addr) (c n : Nat) (w : World) : Calls Try.prog 25 [.slice a n c].toArray w
    (RetX w (fun _ : Nat × Nat => True) (fun x => .func (.func 65) [].toArray [.pointer (some ⟨x.1, 0, none⟩), .pointer (some ⟨x.2, 0, none⟩)].toArray) (fun _ => []) (fun x => [(x.1, blk [i64 0] 3), (x.2, blk [.slice a n c] 40)])) := by
  refine fEnter Try.func25 rfl Try.ntmps25 rfl ?_
  refine kSeq ?_
  refine kRegion rfl ?_
  refine lE rfl ?_
  refine eBox1 rfl rfl fun n1 => ?_
  refine lV (yAssign rfl) rfl rfl ?_
  refine lNil ?_
  refine kThen ?_
  refine kSeq ?_
  refine kRegion rfl ?_
  refine lE rfl ?_
  refine eAlloc Z3 fun n3 => ?_
  refine lE rfl ?_
  refine eStoreL 0 rfl rfl rfl rfl K3 rfl (rfl) ?_
  refine lNil ?_
  refine kThen ?_
  refine kSeq ?_
  refine kRegion rfl ?_
  refine lV (yMakeFunc .n (.c rfl (.c rfl .n))) rfl rfl ?_
  refine lV (yAssign rfl) rfl rfl ?_
  refine lNil ?_
  refine kThen ?_
  refine kRet ?_
  refine fRet rfl (.t rfl .n) ?_
  exact endX (n3, n1) trivial rfl rfl .r
set_option maxHeartbeats 4000000 in
set_option maxRecDepth 100000 in
theorem true_any (a : Option Addr) (c : Nat) (l : List Nat) (w : World) (hl : SlE w a l.length 1 (l16C l)) (hq : ∀ x ∈ l, x < 65536) : Calls Try.prog 4 [.slice a l.length c].toArray w (Ret w (.bool true)) := by
  refine fEnter Try.func4 rfl Try.ntmps4 rfl ?_
  refine kSeq ?_
  refine kRegion rfl ?_
  refine lV (yAssign rfl) rfl rfl ?_
  refine lNil ?_
  refine kThen ?_
  refine kSeq ?_
  refine kSeq ?_
  refine kRegion rfl ?_
  refine lV (yMove rfl) rfl rfl ?_
  refine lV (yLen rfl S40) rfl rfl ?_
  refine lV (yEql rfl rfl) rfl rfl ?_
  refine lNil ?_
  refine kThen ?_
  refine split (t := 27) rfl (fun h27 => ?_) (fun h27 => ?_)
  · refine kIfT rfl ?_
    refine kSeq ?_
    refine kRegion rfl ?_
    refine lV (yCall rfl .n C15 (fun w hw => alive_any w)) rfl rfl ?_
    refine lV (yAssign rfl) rfl rfl ?_
    refine lNil ?_
    refine kThen ?_
    refine kRet ?_
    refine kThenR ?_
    refine fRet rfl (.t rfl .n) (endRet ?_)
    first | rfl | (simp [packV, *]; done)
  · refine kIfF rfl ?_
    refine kSkip ?_
    refine kThen ?_
    refine kSeq ?_
    refine kRegion rfl ?_
    refine lV (yMove rfl) rfl rfl ?_
    refine lE rfl ?_
    refine eCallO rfl (.c rfl .n) C25 (fun w hw => draws_any a c l.length w) fun x _ => ?_
    obtain ⟨na, nb⟩ := x
    dsimp only
    refine lE rfl ?_
    refine eCallM (fun _ => []) (fun x => [(x.nE, blk x.vE 24), (x.nP, blk x.vP 3)] ++ osL 49 x.g) rfl (.c rfl .n) C24 (fun w hw => made_any na nb a c l w (hw.blkAt 0 rfl) ⟨hw.blkAt 1 rfl, hl.eff0 hw⟩ (drawOk_of hw hl (by omega) hq)) (fun y w w' _ h k => forgetM h k (two_new h)) fun x hx => ?_
    obtain ⟨m, sum, ps, nE, cE, vE, nP, cP, vP, g, k⟩ := x
    obtain ⟨hmd, hE, hP, hS⟩ := hx
    dsimp only at hmd hE hP hS ⊢
    have hM := hmd.ok
    have hN := hM.n
    have hI := hM.i
    have hpn := hmd.len
    have hsb := hmd.sb
    have cf := clash_facts hM
    have hc0 : clashS m = 0 := cf.c0.1 hmd.okF
    have hd0 : dropS m = 0 := cf.d0.1 hmd.okF
    have hsm := hmd.sum
    refine lV (yMove rfl) rfl rfl ?_
    refine lV (yExtract rfl rfl) rfl rfl ?_
    refine lV (yExtract rfl rfl) rfl rfl ?_
    refine lV (yExtract rfl rfl) rfl rfl ?_
    refine lE rfl ?_
    refine eAlloc Z29 fun n3 => ?_
    refine lE rfl ?_
    refine eStoreL 0 rfl rfl rfl rfl K29 rfl (rfl) ?_
    refine lV (yAssign rfl) rfl rfl ?_
    refine lV (yAssign rfl) rfl rfl ?_
    refine lNil ?_
    refine kThen ?_
    refine kSeq ?_
    refine kRegion rfl ?_
    refine lV (yLoadA (vs := [_, _, _, _, _, _, _]) rfl A29 (cOwn 0 rfl rfl)) rfl rfl ?_
    refine lV (yCall rfl (.c rfl .n) C18 (fun w hw => sum_any ⟨some ⟨nE, 0, none⟩, cE, osA g, osC g⟩ m w ⟨OS.rowsE (f := rowE) (0, 0) hE hw (.c 1 rfl .n), OS.rowsE (f := rowS) (0, 0, false) hS hw (.d 0 (.d 0 (.d 0 .r)))⟩)) rfl rfl ?_
    refine lV (yMove rfl) rfl rfl ?_
    refine lV (yExtract rfl rfl) rfl rfl ?_
    refine lV (yExtract rfl rfl) rfl rfl ?_
    refine lE rfl ?_
    refine eAlloc Z24 fun n6 => ?_
    refine lE rfl ?_
    refine eStoreL 0 rfl rfl rfl rfl K24 rfl (rfl) ?_
    refine lV (yAssign rfl) rfl rfl ?_
    refine lNil ?_
    refine kThen ?_
    refine kSeq ?_
    refine kRegion rfl ?_
    refine lV (yLoadA (vs := [_, _, _, _, _, _, _]) rfl A29 (cOwn 1 rfl rfl)) rfl rfl ?_
    refine lV (yCall rfl (.c rfl .n) C26 (fun w hw => clash_any ⟨some ⟨nE, 0, none⟩, cE, osA g, osC g⟩ m w ⟨OS.rowsE (f := rowE) (0, 0) hE hw (.c 2 rfl .n), OS.rowsE (f := rowS) (0, 0, false) hS hw (.d 0 (.d 0 (.d 0 (.d 0 .r))))⟩)) rfl rfl ?_
    refine same (t := 43) (u := outI (0, 0)) rfl (by rw [clashE_S hM, hc0]; rfl) ?_
    refine lV (yMove rfl) rfl rfl ?_
    refine lV (yExtract rfl rfl) rfl rfl ?_
    refine lV (yExtract rfl rfl) rfl rfl ?_
    refine lV (yAssign rfl) rfl rfl ?_
    refine lV (yAssign rfl) rfl rfl ?_
    refine lNil ?_
    refine kThen ?_
    refine kSeq ?_
    refine kRegion rfl ?_
    refine lV (yLoadA (vs := [_, _, _, _, _, _, _]) rfl A29 (cOwn 1 rfl rfl)) rfl rfl ?_
    refine lV (yCall rfl (.c rfl .n) C27 (fun w hw => drop_any ⟨some ⟨nE, 0, none⟩, cE, osA g, osC g⟩ m w ⟨OS.rowsE (f := rowE) (0, 0) hE hw (.c 2 rfl .n), OS.rowsE (f := rowS) (0, 0, false) hS hw (.d 0 (.d 0 (.d 0 (.d 0 .r))))⟩)) rfl rfl ?_
    refine same (t := 48) (u := outI (0, 0)) rfl (by rw [dropE_S hM, hd0]; rfl) ?_
    refine lV (yMove rfl) rfl rfl ?_
    refine lV (yExtract rfl rfl) rfl rfl ?_
    refine lV (yExtract rfl rfl) rfl rfl ?_
    refine lV (yAssign rfl) rfl rfl ?_
    refine lV (yAssign rfl) rfl rfl ?_
    refine lNil ?_
    refine kThen ?_
    refine kSeq ?_
    refine kSeq ?_
    refine kRegion rfl ?_
    refine lV (yMove rfl) rfl rfl ?_
    refine lV (yNeq rfl rfl) rfl rfl ?_
    refine knownN (t := 52) rfl (fun h => h hsm.1) ?_
    refine lV (yMove rfl) rfl rfl ?_
    refine lGY rfl rfl rfl (oV (yMove rfl) rfl ?_)
    refine lGY rfl rfl rfl (oV (yFieldAddr rfl F24_0) rfl ?_)
    refine lGY rfl rfl rfl (oV (yLoad1 rfl O3 (cOwn 0 rfl rfl)) rfl ?_)
    refine lGY rfl rfl rfl (oV (yLss rfl rfl) rfl ?_)
    refine knownN (t := 57) rfl (by omega) ?_
    refine lV (yPickF rfl rfl) rfl rfl ?_
    refine lV (yMove rfl) rfl rfl ?_
    refine lGY rfl rfl rfl (oV (yMove rfl) rfl ?_)
    refine lGY rfl rfl rfl (oV (yFieldAddr rfl F24_1) rfl ?_)
    refine lGY rfl rfl rfl (oV (yLoad1 rfl O3 (cOwn 0 rfl rfl)) rfl ?_)
    refine lGY rfl rfl rfl (oV (yGtr rfl rfl) rfl ?_)
    refine knownN (t := 63) rfl (by omega) ?_
    refine lV (yPickF rfl rfl) rfl rfl ?_
    refine lV (yMove rfl) rfl rfl ?_
    refine lGY rfl rfl rfl (oV (yMove rfl) rfl ?_)
    refine lGY rfl rfl rfl (oV (yNeq rfl rfl) rfl ?_)
    refine knownN (t := 67) rfl (fun h => h rfl) ?_
    refine lV (yPickF rfl rfl) rfl rfl ?_
    refine lV (yMove rfl) rfl rfl ?_
    refine lGY rfl rfl rfl (oV (yMove rfl) rfl ?_)
    refine lGY rfl rfl rfl (oV (yNeq rfl rfl) rfl ?_)
    refine knownN (t := 71) rfl (fun h => h rfl) ?_
    refine lV (yPickF rfl rfl) rfl rfl ?_
    refine lV (yMove rfl) rfl rfl ?_
    refine lGY rfl rfl rfl (oV (yMove rfl) rfl ?_)
    refine lGY rfl rfl rfl (oV (yNeq rfl rfl) rfl ?_)
    refine knownN (t := 75) rfl (fun h => h rfl) ?_
    refine lV (yPickF rfl rfl) rfl rfl ?_
    refine lV (yMove rfl) rfl rfl ?_
    refine lGY rfl rfl rfl (oV (yMove rfl) rfl ?_)
    refine lGY rfl rfl rfl (oV (yNeq rfl rfl) rfl ?_)
    refine knownN (t := 79) rfl (fun h => h rfl) ?_
    refine lV (yPickF rfl rfl) rfl rfl ?_
    refine lNil ?_
    refine kThen ?_
    refine kIfF rfl ?_
    refine kSkip ?_
    refine kThen ?_
    refine kSeq ?_
    refine kSeq ?_
    refine kRegion rfl ?_
    refine lV (yFieldAddr rfl F29_3) rfl rfl ?_
    refine lV (yLoad1 rfl O27 (cOwn 1 rfl rfl)) rfl rfl ?_
    refine lV (yLen rfl S27) rfl rfl ?_
    refine lV (yMove rfl) rfl rfl ?_
    refine lNil ?_
    refine kThen ?_
    refine kBlock ?_
    refine kLoopX (ι := Nat) (fun i => i ≤ m.sets.length) (fun i => [(84, i64 (i : Nat))]) [(0, _), (25, _), (26, _), (27, _), (30, _), (31, _), (32, _), (29, _), (33, _), (34, _), (35, _), (3, _), (4, _), (5, _), (37, _), (38, _), (36, _), (39, _), (40, _), (6, _), (7, _), (42, _), (43, _), (41, _), (44, _), (45, _), (8, _), (9, _), (47, _), (48, _), (46, _), (49, _), (50, _), (10, _), (11, _), (51, _), (52, _), (53, _), (54, _), (55, _), (56, _), (57, _), (58, _), (59, _), (60, _), (61, _), (62, _), (63, _), (64, _), (65, _), (66, _), (67, _), (68, _), (69, _), (70, _), (71, _), (72, _), (73, _), (74, _), (75, _), (76, _), (77, _), (78, _), (79, _), (80, _), (81, _), (82, _), (83, _)] (fun i => []) (fun i => osL 49 g) [(n6, _), (n3, _), (nE, _), (nP, _)] (fun i => m.sets.length - i) 0 (Nat.zero_le _) rfl (.c rfl .n) (.c rfl (.c rfl (.c rfl (.c rfl (.c rfl (.c rfl (.c rfl (.c rfl (.c rfl (.c rfl (.c rfl (.c rfl (.c rfl (.c rfl (.c rfl (.c rfl (.c rfl (.c rfl (.c rfl (.c rfl (.c rfl (.c rfl (.c rfl (.c rfl (.c rfl (.c rfl (.c rfl (.c rfl (.c rfl (.c rfl (.c rfl (.c rfl (.c rfl (.c rfl (.c rfl (.c rfl (.c rfl (.c rfl (.c rfl (.c rfl (.c rfl (.c rfl (.c rfl (.c rfl (.c rfl (.c rfl (.c rfl (.c rfl (.c rfl (.c rfl (.c rfl (.c rfl (.c rfl (.c rfl (.c rfl (.c rfl (.c rfl (.c rfl (.c rfl (.c rfl (.c rfl (.c rfl (.c rfl (.c rfl (.c rfl (.c rfl (.c rfl (.c rfl .n)))))))))))))))))))))))))))))))))))))))))))))))))))))))))))))))))))) (.c 0 rfl (.c 0 rfl (.c 0 rfl (.c 0 rfl .r)))) ?_
    rintro i hi
    refine kSeq ?_
    refine kRegion rfl ?_
    refine lV (yLss rfl rfl) rfl rfl ?_
    refine lNil ?_
    refine kThen ?_
    refine kSeq ?_
    refine split (t := 85) rfl (fun h85 => ?_) (fun h85 => ?_)
    · refine kIfT rfl ?_
      refine kSkip ?_
      refine kThen ?_
      refine kSeq ?_
      refine kBlock ?_
      refine kSeq ?_
      have hmem := setAt_mem (m := m) (i := i) (by omega)
      have hst := hmd.set hmem
      have him := (hM.a _ hmem).1
      have hbp := hmd.pb _ (getD_mem (l := ps) (i := (setAt m i).1.toNat) (by omega) 0)
      unfold setAt at hst him hbp
      refine kRegion rfl ?_
      refine lV (yIndexS  rfl rfl S27 (fun w hw => OS.rowsE (f := rowS) (0, 0, false) hS hw (.d 0 (.d 0 (.d 0 (.d 0 .r))))) (by omega)) rfl rfl ?_
      refine lV (yLoadA (vs := [_, _, _]) rfl A49 (cSl0 (fun w hw => OS.rowsE (f := rowS) (0, 0, false) hS hw (.d 0 (.d 0 (.d 0 (.d 0 .r))))) (by omega) rfl)) rfl rfl ?_
      refine lE rfl ?_
      refine eAlloc Z49 fun n13 => ?_
      refine lE rfl ?_
      refine eStoreL 0 rfl rfl rfl rfl K49 rfl (rfl) ?_
      refine lNil ?_
      refine kThen ?_
      refine kSeq ?_
      refine kRegion rfl ?_
      refine lV (yFieldAddr rfl F29_0) rfl rfl ?_
      refine lV (yLoadA (vs := [_, _, _]) rfl A26 (cOwn 2 rfl rfl)) rfl rfl ?_
      refine lV (yFieldAddr rfl F49_1) rfl rfl ?_
      refine lV (yLoad1 rfl O3 (cOwn 0 rfl rfl)) rfl rfl ?_
      refine lV (yCall rfl (.c rfl (.c rfl .n)) C16 (fun w hw => travelX_any ⟨some ⟨nE, 0, none⟩, cE, osA g, osC g⟩ m _ w ⟨OS.rowsE (f := rowE) (0, 0) hE hw (.c 3 rfl .n), OS.rowsE (f := rowS) (0, 0, false) hS hw (.d 0 (.d 0 (.d 0 (.d 0 (.d 0 .r)))))⟩)) rfl rfl ?_
      refine lV (yMove rfl) rfl rfl ?_
      refine lV (yExtract rfl rfl) rfl rfl ?_
      refine lV (yExtract rfl rfl) rfl rfl ?_
      refine lE rfl ?_
      refine eAlloc Z24 fun n14 => ?_
      refine lE rfl ?_
      refine eStoreL 0 rfl rfl rfl rfl K24 rfl (rfl) ?_
      refine lV (yAssign rfl) rfl rfl ?_
      refine lNil ?_
      refine kThen ?_
      refine kSeq ?_
      refine kRegion rfl ?_
      refine lV (yMove rfl) rfl rfl ?_
      refine lV (yFieldAddr rfl F49_0) rfl rfl ?_
      refine lV (yLoad1 rfl O3 (cOwn 1 rfl rfl)) rfl rfl ?_
      refine same (t := 98) (u := i64 (((m.sets.getD i (0, 0, false)).1.toNat : Nat) : Int)) rfl (by rw [Int.toNat_of_nonneg him.1]) ?_
      refine lV (yIndexS  rfl rfl S41 (fun w hw => OS.rowsE (f := rowV) 0 hP hw (.c 5 rfl .n)) (by omega)) rfl rfl ?_
      refine lV (yLoad1 rfl O3 (cSl0 (fun w hw => OS.rowsE (f := rowV) 0 hP hw (.c 5 rfl .n)) (by omega) rfl)) rfl rfl ?_
      refine lV (yAssign rfl) rfl rfl ?_
      refine lNil ?_
      refine kThen ?_
      refine kSeq ?_
      refine kSeq ?_
      refine kRegion rfl ?_
      refine lV (yFieldAddr rfl F49_2) rfl rfl ?_
      refine lV (yLoad1 rfl O4 (cOwn 1 rfl rfl)) rfl rfl ?_
      refine lNil ?_
      refine kThen ?_
      refine splitB (t := 102) rfl (fun h102 => ?_) (fun h102 => ?_)
      · have hst2 := hst.2.1 h102
        refine kIfT rfl ?_
        refine kRegion rfl ?_
        refine lV (yMove rfl) rfl rfl ?_
        refine lV (yMove rfl) rfl rfl ?_
        refine lV (ySub rfl rfl (by omega)) rfl rfl ?_
        refine lV (yAssign rfl) rfl rfl ?_
        refine lNil ?_
        refine kThen ?_
        refine kSeq ?_
        refine kRegion rfl ?_
        refine lV (yMove rfl) rfl rfl ?_
        refine lV (yNeq rfl rfl) rfl rfl ?_
        refine knownN (t := 107) rfl (fun h => h hst.1) ?_
        refine lV (yMove rfl) rfl rfl ?_
        refine lGY rfl rfl rfl (oV (yMove rfl) rfl ?_)
        refine lGY rfl rfl rfl (oV (yFieldAddr rfl F24_0) rfl ?_)
        refine lGY rfl rfl rfl (oV (yLoad1 rfl O3 (cOwn 0 rfl rfl)) rfl ?_)
        refine lGY rfl rfl rfl (oV (yLss rfl rfl) rfl ?_)
        refine knownN (t := 112) rfl (by omega) ?_
        refine lV (yPickF rfl rfl) rfl rfl ?_
        refine lV (yMove rfl) rfl rfl ?_
        refine lGY rfl rfl rfl (oV (yMove rfl) rfl ?_)
        refine lGY rfl rfl rfl (oV (yFieldAddr rfl F24_1) rfl ?_)
        refine lGY rfl rfl rfl (oV (yLoad1 rfl O3 (cOwn 0 rfl rfl)) rfl ?_)
        refine lGY rfl rfl rfl (oV (yGtr rfl rfl) rfl ?_)
        refine knownN (t := 118) rfl (by omega) ?_
        refine lV (yPickF rfl rfl) rfl rfl ?_
        refine lNil ?_
        refine kThen ?_
        refine kIfF rfl ?_
        refine kSkip ?_
        refine kInN ?_
        refine kThen ?_
        refine kRegion rfl ?_
        refine lV (yAdd rfl rfl (by omega)) rfl rfl ?_
        refine lV (yMove rfl) rfl rfl ?_
        refine lNil ?_
        exact kRoundX (i + 1) (by omega) (by omega) rfl (.c rfl .n) (.c rfl (.c rfl (.c rfl (.c rfl (.c rfl (.c rfl (.c rfl (.c rfl (.c rfl (.c rfl (.c rfl (.c rfl (.c rfl (.c rfl (.c rfl (.c rfl (.c rfl (.c rfl (.c rfl (.c rfl (.c rfl (.c rfl (.c rfl (.c rfl (.c rfl (.c rfl (.c rfl (.c rfl (.c rfl (.c rfl (.c rfl (.c rfl (.c rfl (.c rfl (.c rfl (.c rfl (.c rfl (.c rfl (.c rfl (.c rfl (.c rfl (.c rfl (.c rfl (.c rfl (.c rfl (.c rfl (.c rfl (.c rfl (.c rfl (.c rfl (.c rfl (.c rfl (.c rfl (.c rfl (.c rfl (.c rfl (.c rfl (.c rfl (.c rfl (.c rfl (.c rfl (.c rfl (.c rfl (.c rfl (.c rfl (.c rfl (.c rfl (.c rfl .n)))))))))))))))))))))))))))))))))))))))))))))))))))))))))))))))))))) (.c 2 rfl (.c 2 rfl (.c 2 rfl (.c 2 rfl (.d 0 (.d 0 .r))))))
      · have hst2 := hst.2.2 h102
        refine kIfF rfl ?_
        refine kSkip ?_
        refine kThen ?_
        refine kSeq ?_
        refine kRegion rfl ?_
        refine lV (yMove rfl) rfl rfl ?_
        refine lV (yNeq rfl rfl) rfl rfl ?_
        refine knownN (t := 107) rfl (fun h => h hst.1) ?_
        refine lV (yMove rfl) rfl rfl ?_
        refine lGY rfl rfl rfl (oV (yMove rfl) rfl ?_)
        refine lGY rfl rfl rfl (oV (yFieldAddr rfl F24_0) rfl ?_)
        refine lGY rfl rfl rfl (oV (yLoad1 rfl O3 (cOwn 0 rfl rfl)) rfl ?_)
        refine lGY rfl rfl rfl (oV (yLss rfl rfl) rfl ?_)
        refine knownN (t := 112) rfl (by omega) ?_
        refine lV (yPickF rfl rfl) rfl rfl ?_
        refine lV (yMove rfl) rfl rfl ?_
        refine lGY rfl rfl rfl (oV (yMove rfl) rfl ?_)
        refine lGY rfl rfl rfl (oV (yFieldAddr rfl F24_1) rfl ?_)
        refine lGY rfl rfl rfl (oV (yLoad1 rfl O3 (cOwn 0 rfl rfl)) rfl ?_)
        refine lGY rfl rfl rfl (oV (yGtr rfl rfl) rfl ?_)
        refine knownN (t := 118) rfl (by omega) ?_
        refine lV (yPickF rfl rfl) rfl rfl ?_
        refine lNil ?_
        refine kThen ?_
        refine kIfF rfl ?_
        refine kSkip ?_
        refine kInN ?_
        refine kThen ?_
        refine kRegion rfl ?_
        refine lV (yAdd rfl rfl (by omega)) rfl rfl ?_
        refine lV (yMove rfl) rfl rfl ?_
        refine lNil ?_
        exact kRoundX (i + 1) (by omega) (by omega) rfl (.c rfl .n) (.c rfl (.c rfl (.c rfl (.c rfl (.c rfl (.c rfl (.c rfl (.c rfl (.c rfl (.c rfl (.c rfl (.c rfl (.c rfl (.c rfl (.c rfl (.c rfl (.c rfl (.c rfl (.c rfl (.c rfl (.c rfl (.c rfl (.c rfl (.c rfl (.c rfl (.c rfl (.c rfl (.c rfl (.c rfl (.c rfl (.c rfl (.c rfl (.c rfl (.c rfl (.c rfl (.c rfl (.c rfl (.c rfl (.c rfl (.c rfl (.c rfl (.c rfl (.c rfl (.c rfl (.c rfl (.c rfl (.c rfl (.c rfl (.c rfl (.c rfl (.c rfl (.c rfl (.c rfl (.c rfl (.c rfl (.c rfl (.c rfl (.c rfl (.c rfl (.c rfl (.c rfl (.c rfl (.c rfl (.c rfl (.c rfl (.c rfl (.c rfl (.c rfl .n)))))))))))))))))))))))))))))))))))))))))))))))))))))))))))))))))))) (.c 2 rfl (.c 2 rfl (.c 2 rfl (.c 2 rfl (.d 0 (.d 0 .r))))))
    · refine kIfF rfl ?_
      refine kExit ?_
      refine kThenX ?_
      refine kThenX ?_
      refine kInX ?_
      refine kThen ?_
      refine kSeq ?_
      refine kSeq ?_
      refine kRegion rfl ?_
      refine lV (yMove rfl) rfl rfl ?_
      refine lV (yLen rfl S41) rfl rfl ?_
      refine lV (yMove rfl) rfl rfl ?_
      refine lNil ?_
      refine kThen ?_
      refine kBlock ?_
      refine kLoopX (ι := Nat) (fun i => i ≤ ps.length) (fun i => [(123, i64 (i : Nat))]) [(0, _), (25, _), (26, _), (27, _), (30, _), (31, _), (32, _), (29, _), (33, _), (34, _), (35, _), (3, _), (4, _), (5, _), (37, _), (38, _), (36, _), (39, _), (40, _), (6, _), (7, _), (42, _), (43, _), (41, _), (44, _), (45, _), (8, _), (9, _), (47, _), (48, _), (46, _), (49, _), (50, _), (10, _), (11, _), (51, _), (52, _), (53, _), (54, _), (55, _), (56, _), (57, _), (58, _), (59, _), (60, _), (61, _), (62, _), (63, _), (64, _), (65, _), (66, _), (67, _), (68, _), (69, _), (70, _), (71, _), (72, _), (73, _), (74, _), (75, _), (76, _), (77, _), (78, _), (79, _), (80, _), (81, _), (82, _), (83, _), (84, _), (85, _), (121, _), (122, _)] (fun i => []) (fun i => osL 49 g) [(n6, _), (n3, _), (nE, _), (nP, _)] (fun i => ps.length - i) 0 (Nat.zero_le _) rfl (.c rfl .n) (.c rfl (.c rfl (.c rfl (.c rfl (.c rfl (.c rfl (.c rfl (.c rfl (.c rfl (.c rfl (.c rfl (.c rfl (.c rfl (.c rfl (.c rfl (.c rfl (.c rfl (.c rfl (.c rfl (.c rfl (.c rfl (.c rfl (.c rfl (.c rfl (.c rfl (.c rfl (.c rfl (.c rfl (.c rfl (.c rfl (.c rfl (.c rfl (.c rfl (.c rfl (.c rfl (.c rfl (.c rfl (.c rfl (.c rfl (.c rfl (.c rfl (.c rfl (.c rfl (.c rfl (.c rfl (.c rfl (.c rfl (.c rfl (.c rfl (.c rfl (.c rfl (.c rfl (.c rfl (.c rfl (.c rfl (.c rfl (.c rfl (.c rfl (.c rfl (.c rfl (.c rfl (.c rfl (.c rfl (.c rfl (.c rfl (.c rfl (.c rfl (.c rfl (.c rfl (.c rfl (.c rfl (.c rfl .n)))))))))))))))))))))))))))))))))))))))))))))))))))))))))))))))))))))))) (.c 0 rfl (.c 0 rfl (.c 0 rfl (.c 0 rfl .r)))) ?_
      rintro i hi
      refine kSeq ?_
      refine kRegion rfl ?_
      refine lV (yLss rfl rfl) rfl rfl ?_
      refine lNil ?_
      refine kThen ?_
      refine kSeq ?_
      refine split (t := 124) rfl (fun h124 => ?_) (fun h124 => ?_)
      · refine kIfT rfl ?_
        refine kSkip ?_
        refine kThen ?_
        refine kSeq ?_
        refine kBlock ?_
        refine kSeq ?_
        have hpl := hmd.place (i := i) (by omega)
        have hbi := hmd.pb _ (getD_mem (l := ps) (i := i) (by omega) 0)
        refine kRegion rfl ?_
        refine lV (yMove rfl) rfl rfl ?_
        refine lV (yIndexS  rfl rfl S41 (fun w hw => OS.rowsE (f := rowV) 0 hP hw (.c 3 rfl .n)) (by omega)) rfl rfl ?_
        refine lV (yLoad1 rfl O3 (cSl0 (fun w hw => OS.rowsE (f := rowV) 0 hP hw (.c 3 rfl .n)) (by omega) rfl)) rfl rfl ?_
        refine lV (yAssign rfl) rfl rfl ?_
        refine lV (yAssign rfl) rfl rfl ?_
        refine lNil ?_
        refine kThen ?_
        refine kSeq ?_
        refine kRegion rfl ?_
        refine lV (yLoadA (vs := [_, _, _, _, _, _, _]) rfl A29 (cOwn 1 rfl rfl)) rfl rfl ?_
        refine lV (yMove rfl) rfl rfl ?_
        refine lV (yCall rfl (.c rfl (.c rfl .n)) C20 (fun w hw => place_any ⟨some ⟨nE, 0, none⟩, cE, osA g, osC g⟩ m (i : Nat) w ⟨OS.rowsE (f := rowE) (0, 0) hE hw (.c 2 rfl .n), OS.rowsE (f := rowS) (0, 0, false) hS hw (.d 0 (.d 0 (.d 0 (.d 0 .r))))⟩)) rfl rfl ?_
        refine lV (yMove rfl) rfl rfl ?_
        refine lV (yExtract rfl rfl) rfl rfl ?_
        refine lV (yExtract rfl rfl) rfl rfl ?_
        refine lE rfl ?_
        refine eAlloc Z24 fun n19 => ?_
        refine lE rfl ?_
        refine eStoreL 0 rfl rfl rfl rfl K24 rfl (rfl) ?_
        refine lV (yAssign rfl) rfl rfl ?_
        refine lNil ?_
        refine kThen ?_
        refine kSeq ?_
        refine kSeq ?_
        by_cases hc : (placeE m (i : Nat)).2 = 0
        · refine kRegion rfl ?_
          refine lV (yMove rfl) rfl rfl ?_
          refine lV (yNeq rfl rfl) rfl rfl ?_
          refine knownN (t := 135) rfl (fun h => h hc) ?_
          refine lV (yMove rfl) rfl rfl ?_
          refine lGN rfl rfl rfl rfl rfl ?_
          refine lGN rfl rfl rfl rfl rfl ?_
          refine lV (yPickF rfl rfl) rfl rfl ?_
          refine lV (yMove rfl) rfl rfl ?_
          refine lGY rfl rfl rfl (oV (yMove rfl) rfl ?_)
          refine lGY rfl rfl rfl (oV (yEql rfl rfl) rfl ?_)
          refine known (t := 142) rfl (hc) ?_
          refine lGY rfl rfl rfl (oV (yMove rfl) rfl ?_)
          refine lGY rfl rfl rfl (oV (yMove rfl) rfl ?_)
          refine lGY rfl rfl rfl (oV (yFieldAddr rfl F24_0) rfl ?_)
          refine lGY rfl rfl rfl (oV (yLoad1 rfl O3 (cOwn 0 rfl rfl)) rfl ?_)
          refine lGY rfl rfl rfl (oV (yLss rfl rfl) rfl ?_)
          refine knownN (t := 147) rfl (by have := hpl.2 hc; omega) ?_
          refine lGY rfl rfl rfl (oV (yMove rfl) rfl ?_)
          refine lGY rfl rfl rfl (oV (yMove rfl) rfl ?_)
          refine lGY rfl rfl rfl (oV (yFieldAddr rfl F24_1) rfl ?_)
          refine lGY rfl rfl rfl (oV (yLoad1 rfl O3 (cOwn 0 rfl rfl)) rfl ?_)
          refine lGY rfl rfl rfl (oV (yGtr rfl rfl) rfl ?_)
          refine knownN (t := 152) rfl (by have := hpl.2 hc; omega) ?_
          refine lGY rfl rfl rfl (oV (yPickF rfl rfl) rfl ?_)
          refine lGY rfl rfl rfl (oV (yPickT rfl rfl) rfl ?_)
          refine lV (yPickF rfl rfl) rfl rfl ?_
          refine lNil ?_
          refine kThen ?_
          refine kIfF rfl ?_
          refine kSkip ?_
          refine kThen ?_
          refine kSeq ?_
          refine kRegion rfl ?_
          refine lV (yMove rfl) rfl rfl ?_
          refine lV (yLen rfl S41) rfl rfl ?_
          refine lV (yMove rfl) rfl rfl ?_
          refine lNil ?_
          refine kThen ?_
          refine kBlock ?_
          refine kLoopX (ι := Nat) (fun k2 => k2 ≤ ps.length) (fun k2 => [(158, i64 (k2 : Nat))]) [(0, _), (25, _), (26, _), (27, _), (30, _), (31, _), (32, _), (29, _), (33, _), (34, _), (35, _), (3, _), (4, _), (5, _), (37, _), (38, _), (36, _), (39, _), (40, _), (6, _), (7, _), (42, _), (43, _), (41, _), (44, _), (45, _), (8, _), (9, _), (47, _), (48, _), (46, _), (49, _), (50, _), (10, _), (11, _), (51, _), (52, _), (53, _), (54, _), (55, _), (56, _), (57, _), (58, _), (59, _), (60, _), (61, _), (62, _), (63, _), (64, _), (65, _), (66, _), (67, _), (68, _), (69, _), (70, _), (71, _), (72, _), (73, _), (74, _), (75, _), (76, _), (77, _), (78, _), (79, _), (80, _), (81, _), (82, _), (83, _), (84, _), (85, _), (121, _), (122, _), (123, _), (124, _), (125, _), (126, _), (127, _), (17, _), (18, _), (129, _), (130, _), (131, _), (128, _), (132, _), (133, _), (19, _), (20, _), (134, _), (135, _), (136, _), (139, _), (140, _), (141, _), (142, _), (143, _), (144, _), (145, _), (146, _), (147, _), (148, _), (149, _), (150, _), (151, _), (152, _), (153, _), (154, _), (155, _), (156, _), (157, _)] (fun k2 => []) (fun k2 => osL 49 g) [(n19, _), (n6, _), (n3, _), (nE, _), (nP, _)] (fun k2 => ps.length - k2) 0 (Nat.zero_le _) rfl (.c rfl .n) (.c rfl (.c rfl (.c rfl (.c rfl (.c rfl (.c rfl (.c rfl (.c rfl (.c rfl (.c rfl (.c rfl (.c rfl (.c rfl (.c rfl (.c rfl (.c rfl (.c rfl (.c rfl (.c rfl (.c rfl (.c rfl (.c rfl (.c rfl (.c rfl (.c rfl (.c rfl (.c rfl (.c rfl (.c rfl (.c rfl (.c rfl (.c rfl (.c rfl (.c rfl (.c rfl (.c rfl (.c rfl (.c rfl (.c rfl (.c rfl (.c rfl (.c rfl (.c rfl (.c rfl (.c rfl (.c rfl (.c rfl (.c rfl (.c rfl (.c rfl (.c rfl (.c rfl (.c rfl (.c rfl (.c rfl (.c rfl (.c rfl (.c rfl (.c rfl (.c rfl (.c rfl (.c rfl (.c rfl (.c rfl (.c rfl (.c rfl (.c rfl (.c rfl (.c rfl (.c rfl (.c rfl (.c rfl (.c rfl (.c rfl (.c rfl (.c rfl (.c rfl (.c rfl (.c rfl (.c rfl (.c rfl (.c rfl (.c rfl (.c rfl (.c rfl (.c rfl (.c rfl (.c rfl (.c rfl (.c rfl (.c rfl (.c rfl (.c rfl (.c rfl (.c rfl (.c rfl (.c rfl (.c rfl (.c rfl (.c rfl (.c rfl (.c rfl (.c rfl (.c rfl (.c rfl (.c rfl (.c rfl (.c rfl (.c rfl .n))))))))))))))))))))))))))))))))))))))))))))))))))))))))))))))))))))))))))))))))))))))))))))))))))))))))))))) (.c 0 rfl (.c 0 rfl (.c 0 rfl (.c 0 rfl (.c 0 rfl .r))))) ?_
          rintro k2 hk2
          refine kSeq ?_
          refine kRegion rfl ?_
          refine lV (yLss rfl rfl) rfl rfl ?_
          refine lNil ?_
          refine kThen ?_
          refine kSeq ?_
          refine split (t := 159) rfl (fun h159 => ?_) (fun h159 => ?_)
          · refine kIfT rfl ?_
            refine kSkip ?_
            refine kThen ?_
            refine kSeq ?_
            refine kBlock ?_
            refine kSeq ?_
            have hap := hmd.apart (i := i) (k := k2) (by omega) (by omega)
            have hbk := hmd.pb _ (getD_mem (l := ps) (i := k2) (by omega) 0)
            refine kRegion rfl ?_
            refine lV (yMove rfl) rfl rfl ?_
            refine lV (yIndexS  rfl rfl S41 (fun w hw => OS.rowsE (f := rowV) 0 hP hw (.c 4 rfl .n)) (by omega)) rfl rfl ?_
            refine lV (yLoad1 rfl O3 (cSl0 (fun w hw => OS.rowsE (f := rowV) 0 hP hw (.c 4 rfl .n)) (by omega) rfl)) rfl rfl ?_
            refine lV (yAssign rfl) rfl rfl ?_
            refine lV (yAssign rfl) rfl rfl ?_
            refine lNil ?_
            refine kThen ?_
            refine kSeq ?_
            refine kRegion rfl ?_
            refine lV (yLoadA (vs := [_, _, _, _, _, _, _]) rfl A29 (cOwn 2 rfl rfl)) rfl rfl ?_
            refine lV (yMove rfl) rfl rfl ?_
            refine lV (yMove rfl) rfl rfl ?_
            refine lV (yCall rfl (.c rfl (.c rfl (.c rfl .n))) C22 (fun w hw => apart_any ⟨some ⟨nE, 0, none⟩, cE, osA g, osC g⟩ m (i : Nat) (k2 : Nat) w ⟨OS.rowsE (f := rowE) (0, 0) hE hw (.c 3 rfl .n), OS.rowsE (f := rowS) (0, 0, false) hS hw (.d 0 (.d 0 (.d 0 (.d 0 (.d 0 .r)))))⟩)) rfl rfl ?_
            refine lV (yMove rfl) rfl rfl ?_
            refine lV (yExtract rfl rfl) rfl rfl ?_
            refine lV (yExtract rfl rfl) rfl rfl ?_
            refine lE rfl ?_
            refine eAlloc Z24 fun n23 => ?_
            refine lE rfl ?_
            refine eStoreL 0 rfl rfl rfl rfl K24 rfl (rfl) ?_
            refine lV (yAssign rfl) rfl rfl ?_
            refine lNil ?_
            refine kThen ?_
            refine kSeq ?_
            by_cases hd : (apartE m (i : Nat) (k2 : Nat)).2 = 0
            · refine kRegion rfl ?_
              refine lV (yMove rfl) rfl rfl ?_
              refine lV (yNeq rfl rfl) rfl rfl ?_
              refine knownN (t := 171) rfl (fun h => h hd) ?_
              refine lV (yMove rfl) rfl rfl ?_
              refine lGN rfl rfl rfl rfl rfl ?_
              refine lGN rfl rfl rfl rfl rfl ?_
              refine lV (yPickF rfl rfl) rfl rfl ?_
              refine lV (yMove rfl) rfl rfl ?_
              refine lGY rfl rfl rfl (oV (yMove rfl) rfl ?_)
              refine lGY rfl rfl rfl (oV (yEql rfl rfl) rfl ?_)
              refine known (t := 178) rfl (hd) ?_
              refine lGY rfl rfl rfl (oV (yMove rfl) rfl ?_)
              refine lGY rfl rfl rfl (oV (yMove rfl) rfl ?_)
              refine lGY rfl rfl rfl (oV (yMove rfl) rfl ?_)
              refine lGY rfl rfl rfl (oV (ySub rfl rfl (by omega)) rfl ?_)
              refine lGY rfl rfl rfl (oV (yFieldAddr rfl F24_0) rfl ?_)
              refine lGY rfl rfl rfl (oV (yLoad1 rfl O3 (cOwn 0 rfl rfl)) rfl ?_)
              refine lGY rfl rfl rfl (oV (yLss rfl rfl) rfl ?_)
              refine knownN (t := 185) rfl (by have := hap.2 hd; omega) ?_
              refine lGY rfl rfl rfl (oV (yMove rfl) rfl ?_)
              refine lGY rfl rfl rfl (oV (yMove rfl) rfl ?_)
              refine lGY rfl rfl rfl (oV (yMove rfl) rfl ?_)
              refine lGY rfl rfl rfl (oV (ySub rfl rfl (by omega)) rfl ?_)
              refine lGY rfl rfl rfl (oV (yFieldAddr rfl F24_1) rfl ?_)
              refine lGY rfl rfl rfl (oV (yLoad1 rfl O3 (cOwn 0 rfl rfl)) rfl ?_)
              refine lGY rfl rfl rfl (oV (yGtr rfl rfl) rfl ?_)
              refine knownN (t := 192) rfl (by have := hap.2 hd; omega) ?_
              refine lGY rfl rfl rfl (oV (yPickF rfl rfl) rfl ?_)
              refine lGY rfl rfl rfl (oV (yPickT rfl rfl) rfl ?_)
              refine lV (yPickF rfl rfl) rfl rfl ?_
              refine lNil ?_
              refine kThen ?_
              refine kIfF rfl ?_
              refine kSkip ?_
              refine kInN ?_
              refine kThen ?_
              refine kRegion rfl ?_
              refine lV (yAdd rfl rfl (by omega)) rfl rfl ?_
              refine lV (yMove rfl) rfl rfl ?_
              refine lNil ?_
              exact kRoundX (k2 + 1) (by omega) (by omega) rfl (.c rfl .n) (.c rfl (.c rfl (.c rfl (.c rfl (.c rfl (.c rfl (.c rfl (.c rfl (.c rfl (.c rfl (.c rfl (.c rfl (.c rfl (.c rfl (.c rfl (.c rfl (.c rfl (.c rfl (.c rfl (.c rfl (.c rfl (.c rfl (.c rfl (.c rfl (.c rfl (.c rfl (.c rfl (.c rfl (.c rfl (.c rfl (.c rfl (.c rfl (.c rfl (.c rfl (.c rfl (.c rfl (.c rfl (.c rfl (.c rfl (.c rfl (.c rfl (.c rfl (.c rfl (.c rfl (.c rfl (.c rfl (.c rfl (.c rfl (.c rfl (.c rfl (.c rfl (.c rfl (.c rfl (.c rfl (.c rfl (.c rfl (.c rfl (.c rfl (.c rfl (.c rfl (.c rfl (.c rfl (.c rfl (.c rfl (.c rfl (.c rfl (.c rfl (.c rfl (.c rfl (.c rfl (.c rfl (.c rfl (.c rfl (.c rfl (.c rfl (.c rfl (.c rfl (.c rfl (.c rfl (.c rfl (.c rfl (.c rfl (.c rfl (.c rfl (.c rfl (.c rfl (.c rfl (.c rfl (.c rfl (.c rfl (.c rfl (.c rfl (.c rfl (.c rfl (.c rfl (.c rfl (.c rfl (.c rfl (.c rfl (.c rfl (.c rfl (.c rfl (.c rfl (.c rfl (.c rfl (.c rfl (.c rfl (.c rfl (.c rfl .n))))))))))))))))))))))))))))))))))))))))))))))))))))))))))))))))))))))))))))))))))))))))))))))))))))))))))))) (.c 1 rfl (.c 1 rfl (.c 1 rfl (.c 1 rfl (.c 1 rfl (.d 0 .r))))))
            · refine kRegion rfl ?_
              refine lV (yMove rfl) rfl rfl ?_
              refine lV (yNeq rfl rfl) rfl rfl ?_
              refine known (t := 171) rfl (hd) ?_
              refine lV (yMove rfl) rfl rfl ?_
              refine lGY rfl rfl rfl (oV (yMove rfl) rfl ?_)
              refine lGY rfl rfl rfl (oV (yNeq rfl rfl) rfl ?_)
              refine knownN (t := 174) rfl (by omega) ?_
              refine lV (yPickT rfl rfl) rfl rfl ?_
              refine lV (yMove rfl) rfl rfl ?_
              refine lGY rfl rfl rfl (oV (yMove rfl) rfl ?_)
              refine lGY rfl rfl rfl (oV (yEql rfl rfl) rfl ?_)
              refine knownN (t := 178) rfl (hd) ?_
              refine lGY rfl rfl rfl (oV (yMove rfl) rfl ?_)
              refine lGN rfl rfl rfl rfl rfl ?_
              refine lGN rfl rfl rfl rfl rfl ?_
              refine lGN rfl rfl rfl rfl rfl ?_
              refine lGN rfl rfl rfl rfl rfl ?_
              refine lGN rfl rfl rfl rfl rfl ?_
              refine lGN rfl rfl rfl rfl rfl ?_
              refine lGN rfl rfl rfl rfl rfl ?_
              refine lGU rfl rfl rfl rfl ?_
              refine lGU rfl rfl rfl rfl ?_
              refine lGU rfl rfl rfl rfl ?_
              refine lGU rfl rfl rfl rfl ?_
              refine lGU rfl rfl rfl rfl ?_
              refine lGU rfl rfl rfl rfl ?_
              refine lGN rfl rfl rfl rfl rfl ?_
              refine lGY rfl rfl rfl (oV (yPickF rfl rfl) rfl ?_)
              refine lV (yPickF rfl rfl) rfl rfl ?_
              refine lNil ?_
              refine kThen ?_
              refine kIfF rfl ?_
              refine kSkip ?_
              refine kInN ?_
              refine kThen ?_
              refine kRegion rfl ?_
              refine lV (yAdd rfl rfl (by omega)) rfl rfl ?_
              refine lV (yMove rfl) rfl rfl ?_
              refine lNil ?_
              exact kRoundX (k2 + 1) (by omega) (by omega) rfl (.c rfl .n) (.c rfl (.c rfl (.c rfl (.c rfl (.c rfl (.c rfl (.c rfl (.c rfl (.c rfl (.c rfl (.c rfl (.c rfl (.c rfl (.c rfl (.c rfl (.c rfl (.c rfl (.c rfl (.c rfl (.c rfl (.c rfl (.c rfl (.c rfl (.c rfl (.c rfl (.c rfl (.c rfl (.c rfl (.c rfl (.c rfl (.c rfl (.c rfl (.c rfl (.c rfl (.c rfl (.c rfl (.c rfl (.c rfl (.c rfl (.c rfl (.c rfl (.c rfl (.c rfl (.c rfl (.c rfl (.c rfl (.c rfl (.c rfl (.c rfl (.c rfl (.c rfl (.c rfl (.c rfl (.c rfl (.c rfl (.c rfl (.c rfl (.c rfl (.c rfl (.c rfl (.c rfl (.c rfl (.c rfl (.c rfl (.c rfl (.c rfl (.c rfl (.c rfl (.c rfl (.c rfl (.c rfl (.c rfl (.c rfl (.c rfl (.c rfl (.c rfl (.c rfl (.c rfl (.c rfl (.c rfl (.c rfl (.c rfl (.c rfl (.c rfl (.c rfl (.c rfl (.c rfl (.c rfl (.c rfl (.c rfl (.c rfl (.c rfl (.c rfl (.c rfl (.c rfl (.c rfl (.c rfl (.c rfl (.c rfl (.c rfl (.c rfl (.c rfl (.c rfl (.c rfl (.c rfl (.c rfl (.c rfl (.c rfl (.c rfl .n))))))))))))))))))))))))))))))))))))))))))))))))))))))))))))))))))))))))))))))))))))))))))))))))))))))))))))) (.c 1 rfl (.c 1 rfl (.c 1 rfl (.c 1 rfl (.c 1 rfl (.d 0 .r))))))
          · refine kIfF rfl ?_
            refine kExit ?_
            refine kThenX ?_
            refine kThenX ?_
            refine kInX ?_
            refine kInN ?_
            refine kThen ?_
            refine kRegion rfl ?_
            refine lV (yAdd rfl rfl (by omega)) rfl rfl ?_
            refine lV (yMove rfl) rfl rfl ?_
            refine lNil ?_
            exact kRoundX (i + 1) (by omega) (by omega) rfl (.c rfl .n) (.c rfl (.c rfl (.c rfl (.c rfl (.c rfl (.c rfl (.c rfl (.c rfl (.c rfl (.c rfl (.c rfl (.c rfl (.c rfl (.c rfl (.c rfl (.c rfl (.c rfl (.c rfl (.c rfl (.c rfl (.c rfl (.c rfl (.c rfl (.c rfl (.c rfl (.c rfl (.c rfl (.c rfl (.c rfl (.c rfl (.c rfl (.c rfl (.c rfl (.c rfl (.c rfl (.c rfl (.c rfl (.c rfl (.c rfl (.c rfl (.c rfl (.c rfl (.c rfl (.c rfl (.c rfl (.c rfl (.c rfl (.c rfl (.c rfl (.c rfl (.c rfl (.c rfl (.c rfl (.c rfl (.c rfl (.c rfl (.c rfl (.c rfl (.c rfl (.c rfl (.c rfl (.c rfl (.c rfl (.c rfl (.c rfl (.c rfl (.c rfl (.c rfl (.c rfl (.c rfl (.c rfl (.c rfl .n)))))))))))))))))))))))))))))))))))))))))))))))))))))))))))))))))))))))) (.c 1 rfl (.c 1 rfl (.c 1 rfl (.c 1 rfl (.d 0 .r)))))
        · refine kRegion rfl ?_
          refine lV (yMove rfl) rfl rfl ?_
          refine lV (yNeq rfl rfl) rfl rfl ?_
          refine known (t := 135) rfl (hc) ?_
          refine lV (yMove rfl) rfl rfl ?_
          refine lGY rfl rfl rfl (oV (yMove rfl) rfl ?_)
          refine lGY rfl rfl rfl (oV (yNeq rfl rfl) rfl ?_)
          refine knownN (t := 138) rfl (by omega) ?_
          refine lV (yPickT rfl rfl) rfl rfl ?_
          refine lV (yMove rfl) rfl rfl ?_
          refine lGY rfl rfl rfl (oV (yMove rfl) rfl ?_)
          refine lGY rfl rfl rfl (oV (yEql rfl rfl) rfl ?_)
          refine knownN (t := 142) rfl (hc) ?_
          refine lGY rfl rfl rfl (oV (yMove rfl) rfl ?_)
          refine lGN rfl rfl rfl rfl rfl ?_
          refine lGN rfl rfl rfl rfl rfl ?_
          refine lGN rfl rfl rfl rfl rfl ?_
          refine lGN rfl rfl rfl rfl rfl ?_
          refine lGN rfl rfl rfl rfl rfl ?_
          refine lGU rfl rfl rfl rfl ?_
          refine lGU rfl rfl rfl rfl ?_
          refine lGU rfl rfl rfl rfl ?_
          refine lGU rfl rfl rfl rfl ?_
          refine lGN rfl rfl rfl rfl rfl ?_
          refine lGY rfl rfl rfl (oV (yPickF rfl rfl) rfl ?_)
          refine lV (yPickF rfl rfl) rfl rfl ?_
          refine lNil ?_
          refine kThen ?_
          refine kIfF rfl ?_
          refine kSkip ?_
          refine kThen ?_
          refine kSeq ?_
          refine kRegion rfl ?_
          refine lV (yMove rfl) rfl rfl ?_
          refine lV (yLen rfl S41) rfl rfl ?_
          refine lV (yMove rfl) rfl rfl ?_
          refine lNil ?_
          refine kThen ?_
          refine kBlock ?_
          refine kLoopX (ι := Nat) (fun k2 => k2 ≤ ps.length) (fun k2 => [(158, i64 (k2 : Nat))]) [(0, _), (25, _), (26, _), (27, _), (30, _), (31, _), (32, _), (29, _), (33, _), (34, _), (35, _), (3, _), (4, _), (5, _), (37, _), (38, _), (36, _), (39, _), (40, _), (6, _), (7, _), (42, _), (43, _), (41, _), (44, _), (45, _), (8, _), (9, _), (47, _), (48, _), (46, _), (49, _), (50, _), (10, _), (11, _), (51, _), (52, _), (53, _), (54, _), (55, _), (56, _), (57, _), (58, _), (59, _), (60, _), (61, _), (62, _), (63, _), (64, _), (65, _), (66, _), (67, _), (68, _), (69, _), (70, _), (71, _), (72, _), (73, _), (74, _), (75, _), (76, _), (77, _), (78, _), (79, _), (80, _), (81, _), (82, _), (83, _), (84, _), (85, _), (121, _), (122, _), (123, _), (124, _), (125, _), (126, _), (127, _), (17, _), (18, _), (129, _), (130, _), (131, _), (128, _), (132, _), (133, _), (19, _), (20, _), (134, _), (135, _), (136, _), (137, _), (138, _), (139, _), (140, _), (141, _), (142, _), (143, _), (154, _), (155, _), (156, _), (157, _)] (fun k2 => []) (fun k2 => osL 49 g) [(n19, _), (n6, _), (n3, _), (nE, _), (nP, _)] (fun k2 => ps.length - k2) 0 (Nat.zero_le _) rfl (.c rfl .n) (.c rfl (.c rfl (.c rfl (.c rfl (.c rfl (.c rfl (.c rfl (.c rfl (.c rfl (.c rfl (.c rfl (.c rfl (.c rfl (.c rfl (.c rfl (.c rfl (.c rfl (.c rfl (.c rfl (.c rfl (.c rfl (.c rfl (.c rfl (.c rfl (.c rfl (.c rfl (.c rfl (.c rfl (.c rfl (.c rfl (.c rfl (.c rfl (.c rfl (.c rfl (.c rfl (.c rfl (.c rfl (.c rfl (.c rfl (.c rfl (.c rfl (.c rfl (.c rfl (.c rfl (.c rfl (.c rfl (.c rfl (.c rfl (.c rfl (.c rfl (.c rfl (.c rfl (.c rfl (.c rfl (.c rfl (.c rfl (.c rfl (.c rfl (.c rfl (.c rfl (.c rfl (.c rfl (.c rfl (.c rfl (.c rfl (.c rfl (.c rfl (.c rfl (.c rfl (.c rfl (.c rfl (.c rfl (.c rfl (.c rfl (.c rfl (.c rfl (.c rfl (.c rfl (.c rfl (.c rfl (.c rfl (.c rfl (.c rfl (.c rfl (.c rfl (.c rfl (.c rfl (.c rfl (.c rfl (.c rfl (.c rfl (.c rfl (.c rfl (.c rfl (.c rfl (.c rfl (.c rfl (.c rfl (.c rfl (.c rfl (.c rfl .n))))))))))))))))))))))))))))))))))))))))))))))))))))))))))))))))))))))))))))))))))))))))))))))))))))) (.c 0 rfl (.c 0 rfl (.c 0 rfl (.c 0 rfl (.c 0 rfl .r))))) ?_
          rintro k2 hk2
          refine kSeq ?_
          refine kRegion rfl ?_
          refine lV (yLss rfl rfl) rfl rfl ?_
          refine lNil ?_
          refine kThen ?_
          refine kSeq ?_
          refine split (t := 159) rfl (fun h159 => ?_) (fun h159 => ?_)
          · refine kIfT rfl ?_
            refine kSkip ?_
            refine kThen ?_
            refine kSeq ?_
            refine kBlock ?_
            refine kSeq ?_
            have hap := hmd.apart (i := i) (k := k2) (by omega) (by omega)
            have hbk := hmd.pb _ (getD_mem (l := ps) (i := k2) (by omega) 0)
            refine kRegion rfl ?_
            refine lV (yMove rfl) rfl rfl ?_
            refine lV (yIndexS  rfl rfl S41 (fun w hw => OS.rowsE (f := rowV) 0 hP hw (.c 4 rfl .n)) (by omega)) rfl rfl ?_
            refine lV (yLoad1 rfl O3 (cSl0 (fun w hw => OS.rowsE (f := rowV) 0 hP hw (.c 4 rfl .n)) (by omega) rfl)) rfl rfl ?_
            refine lV (yAssign rfl) rfl rfl ?_
            refine lV (yAssign rfl) rfl rfl ?_
            refine lNil ?_
            refine kThen ?_
            refine kSeq ?_
            refine kRegion rfl ?_
            refine lV (yLoadA (vs := [_, _, _, _, _, _, _]) rfl A29 (cOwn 2 rfl rfl)) rfl rfl ?_
            refine lV (yMove rfl) rfl rfl ?_
            refine lV (yMove rfl) rfl rfl ?_
            refine lV (yCall rfl (.c rfl (.c rfl (.c rfl .n))) C22 (fun w hw => apart_any ⟨some ⟨nE, 0, none⟩, cE, osA g, osC g⟩ m (i : Nat) (k2 : Nat) w ⟨OS.rowsE (f := rowE) (0, 0) hE hw (.c 3 rfl .n), OS.rowsE (f := rowS) (0, 0, false) hS hw (.d 0 (.d 0 (.d 0 (.d 0 (.d 0 .r)))))⟩)) rfl rfl ?_
            refine lV (yMove rfl) rfl rfl ?_
            refine lV (yExtract rfl rfl) rfl rfl ?_
            refine lV (yExtract rfl rfl) rfl rfl ?_
            refine lE rfl ?_
            refine eAlloc Z24 fun n23 => ?_
            refine lE rfl ?_
            refine eStoreL 0 rfl rfl rfl rfl K24 rfl (rfl) ?_
            refine lV (yAssign rfl) rfl rfl ?_
            refine lNil ?_
            refine kThen ?_
            refine kSeq ?_
            by_cases hd : (apartE m (i : Nat) (k2 : Nat)).2 = 0
            · refine kRegion rfl ?_
              refine lV (yMove rfl) rfl rfl ?_
              refine lV (yNeq rfl rfl) rfl rfl ?_
              refine knownN (t := 171) rfl (fun h => h hd) ?_
              refine lV (yMove rfl) rfl rfl ?_
              refine lGN rfl rfl rfl rfl rfl ?_
              refine lGN rfl rfl rfl rfl rfl ?_
              refine lV (yPickF rfl rfl) rfl rfl ?_
              refine lV (yMove rfl) rfl rfl ?_
              refine lGY rfl rfl rfl (oV (yMove rfl) rfl ?_)
              refine lGY rfl rfl rfl (oV (yEql rfl rfl) rfl ?_)
              refine known (t := 178) rfl (hd) ?_
              refine lGY rfl rfl rfl (oV (yMove rfl) rfl ?_)
              refine lGY rfl rfl rfl (oV (yMove rfl) rfl ?_)
              refine lGY rfl rfl rfl (oV (yMove rfl) rfl ?_)
              refine lGY rfl rfl rfl (oV (ySub rfl rfl (by omega)) rfl ?_)
              refine lGY rfl rfl rfl (oV (yFieldAddr rfl F24_0) rfl ?_)
              refine lGY rfl rfl rfl (oV (yLoad1 rfl O3 (cOwn 0 rfl rfl)) rfl ?_)
              refine lGY rfl rfl rfl (oV (yLss rfl rfl) rfl ?_)
              refine knownN (t := 185) rfl (by have := hap.2 hd; omega) ?_
              refine lGY rfl rfl rfl (oV (yMove rfl) rfl ?_)
              refine lGY rfl rfl rfl (oV (yMove rfl) rfl ?_)
              refine lGY rfl rfl rfl (oV (yMove rfl) rfl ?_)
              refine lGY rfl rfl rfl (oV (ySub rfl rfl (by omega)) rfl ?_)
              refine lGY rfl rfl rfl (oV (yFieldAddr rfl F24_1) rfl ?_)
              refine lGY rfl rfl rfl (oV (yLoad1 rfl O3 (cOwn 0 rfl rfl)) rfl ?_)
              refine lGY rfl rfl rfl (oV (yGtr rfl rfl) rfl ?_)
              refine knownN (t := 192) rfl (by have := hap.2 hd; omega) ?_
              refine lGY rfl rfl rfl (oV (yPickF rfl rfl) rfl ?_)
              refine lGY rfl rfl rfl (oV (yPickT rfl rfl) rfl ?_)
              refine lV (yPickF rfl rfl) rfl rfl ?_
              refine lNil ?_
              refine kThen ?_
              refine kIfF rfl ?_
              refine kSkip ?_
              refine kInN ?_
              refine kThen ?_
              refine kRegion rfl ?_
              refine lV (yAdd rfl rfl (by omega)) rfl rfl ?_
              refine lV (yMove rfl) rfl rfl ?_
              refine lNil ?_
              exact kRoundX (k2 + 1) (by omega) (by omega) rfl (.c rfl .n) (.c rfl (.c rfl (.c rfl (.c rfl (.c rfl (.c rfl (.c rfl (.c rfl (.c rfl (.c rfl (.c rfl (.c rfl (.c rfl (.c rfl (.c rfl (.c rfl (.c rfl (.c rfl (.c rfl (.c rfl (.c rfl (.c rfl (.c rfl (.c rfl (.c rfl (.c rfl (.c rfl (.c rfl (.c rfl (.c rfl (.c rfl (.c rfl (.c rfl (.c rfl (.c rfl (.c rfl (.c rfl (.c rfl (.c rfl (.c rfl (.c rfl (.c rfl (.c rfl (.c rfl (.c rfl (.c rfl (.c rfl (.c rfl (.c rfl (.c rfl (.c rfl (.c rfl (.c rfl (.c rfl (.c rfl (.c rfl (.c rfl (.c rfl (.c rfl (.c rfl (.c rfl (.c rfl (.c rfl (.c rfl (.c rfl (.c rfl (.c rfl (.c rfl (.c rfl (.c rfl (.c rfl (.c rfl (.c rfl (.c rfl (.c rfl (.c rfl (.c rfl (.c rfl (.c rfl (.c rfl (.c rfl (.c rfl (.c rfl (.c rfl (.c rfl (.c rfl (.c rfl (.c rfl (.c rfl (.c rfl (.c rfl (.c rfl (.c rfl (.c rfl (.c rfl (.c rfl (.c rfl (.c rfl (.c rfl (.c rfl (.c rfl .n))))))))))))))))))))))))))))))))))))))))))))))))))))))))))))))))))))))))))))))))))))))))))))))))))))) (.c 1 rfl (.c 1 rfl (.c 1 rfl (.c 1 rfl (.c 1 rfl (.d 0 .r))))))
            · refine kRegion rfl ?_
              refine lV (yMove rfl) rfl rfl ?_
              refine lV (yNeq rfl rfl) rfl rfl ?_
              refine known (t := 171) rfl (hd) ?_
              refine lV (yMove rfl) rfl rfl ?_
              refine lGY rfl rfl rfl (oV (yMove rfl) rfl ?_)
              refine lGY rfl rfl rfl (oV (yNeq rfl rfl) rfl ?_)
              refine knownN (t := 174) rfl (by omega) ?_
              refine lV (yPickT rfl rfl) rfl rfl ?_
              refine lV (yMove rfl) rfl rfl ?_
              refine lGY rfl rfl rfl (oV (yMove rfl) rfl ?_)
              refine lGY rfl rfl rfl (oV (yEql rfl rfl) rfl ?_)
              refine knownN (t := 178) rfl (hd) ?_
              refine lGY rfl rfl rfl (oV (yMove rfl) rfl ?_)
              refine lGN rfl rfl rfl rfl rfl ?_
              refine lGN rfl rfl rfl rfl rfl ?_
              refine lGN rfl rfl rfl rfl rfl ?_
              refine lGN rfl rfl rfl rfl rfl ?_
              refine lGN rfl rfl rfl rfl rfl ?_
              refine lGN rfl rfl rfl rfl rfl ?_
              refine lGN rfl rfl rfl rfl rfl ?_
              refine lGU rfl rfl rfl rfl ?_
              refine lGU rfl rfl rfl rfl ?_
              refine lGU rfl rfl rfl rfl ?_
              refine lGU rfl rfl rfl rfl ?_
              refine lGU rfl rfl rfl rfl ?_
              refine lGU rfl rfl rfl rfl ?_
              refine lGN rfl rfl rfl rfl rfl ?_
              refine lGY rfl rfl rfl (oV (yPickF rfl rfl) rfl ?_)
              refine lV (yPickF rfl rfl) rfl rfl ?_
              refine lNil ?_
              refine kThen ?_
              refine kIfF rfl ?_
              refine kSkip ?_
              refine kInN ?_
              refine kThen ?_
              refine kRegion rfl ?_
              refine lV (yAdd rfl rfl (by omega)) rfl rfl ?_
              refine lV (yMove rfl) rfl rfl ?_
              refine lNil ?_
              exact kRoundX (k2 + 1) (by omega) (by omega) rfl (.c rfl .n) (.c rfl (.c rfl (.c rfl (.c rfl (.c rfl (.c rfl (.c rfl (.c rfl (.c rfl (.c rfl (.c rfl (.c rfl (.c rfl (.c rfl (.c rfl (.c rfl (.c rfl (.c rfl (.c rfl (.c rfl (.c rfl (.c rfl (.c rfl (.c rfl (.c rfl (.c rfl (.c rfl (.c rfl (.c rfl (.c rfl (.c rfl (.c rfl (.c rfl (.c rfl (.c rfl (.c rfl (.c rfl (.c rfl (.c rfl (.c rfl (.c rfl (.c rfl (.c rfl (.c rfl (.c rfl (.c rfl (.c rfl (.c rfl (.c rfl (.c rfl (.c rfl (.c rfl (.c rfl (.c rfl (.c rfl (.c rfl (.c rfl (.c rfl (.c rfl (.c rfl (.c rfl (.c rfl (.c rfl (.c rfl (.c rfl (.c rfl (.c rfl (.c rfl (.c rfl (.c rfl (.c rfl (.c rfl (.c rfl (.c rfl (.c rfl (.c rfl (.c rfl (.c rfl (.c rfl (.c rfl (.c rfl (.c rfl (.c rfl (.c rfl (.c rfl (.c rfl (.c rfl (.c rfl (.c rfl (.c rfl (.c rfl (.c rfl (.c rfl (.c rfl (.c rfl (.c rfl (.c rfl (.c rfl (.c rfl (.c rfl (.c rfl .n))))))))))))))))))))))))))))))))))))))))))))))))))))))))))))))))))))))))))))))))))))))))))))))))))))) (.c 1 rfl (.c 1 rfl (.c 1 rfl (.c 1 rfl (.c 1 rfl (.d 0 .r))))))
          · refine kIfF rfl ?_
            refine kExit ?_
            refine kThenX ?_
            refine kThenX ?_
            refine kInX ?_
            refine kInN ?_
            refine kThen ?_
            refine kRegion rfl ?_
            refine lV (yAdd rfl rfl (by omega)) rfl rfl ?_
            refine lV (yMove rfl) rfl rfl ?_
            refine lNil ?_
            exact kRoundX (i + 1) (by omega) (by omega) rfl (.c rfl .n) (.c rfl (.c rfl (.c rfl (.c rfl (.c rfl (.c rfl (.c rfl (.c rfl (.c rfl (.c rfl (.c rfl (.c rfl (.c rfl (.c rfl (.c rfl (.c rfl (.c rfl (.c rfl (.c rfl (.c rfl (.c rfl (.c rfl (.c rfl (.c rfl (.c rfl (.c rfl (.c rfl (.c rfl (.c rfl (.c rfl (.c rfl (.c rfl (.c rfl (.c rfl (.c rfl (.c rfl (.c rfl (.c rfl (.c rfl (.c rfl (.c rfl (.c rfl (.c rfl (.c rfl (.c rfl (.c rfl (.c rfl (.c rfl (.c rfl (.c rfl (.c rfl (.c rfl (.c rfl (.c rfl (.c rfl (.c rfl (.c rfl (.c rfl (.c rfl (.c rfl (.c rfl (.c rfl (.c rfl (.c rfl (.c rfl (.c rfl (.c rfl (.c rfl (.c rfl (.c rfl (.c rfl (.c rfl .n)))))))))))))))))))))))))))))))))))))))))))))))))))))))))))))))))))))))) (.c 1 rfl (.c 1 rfl (.c 1 rfl (.c 1 rfl (.d 0 .r)))))
      · refine kIfF rfl ?_
        refine kExit ?_
        refine kThenX ?_
        refine kThenX ?_
        refine kInX ?_
        refine kThen ?_
        refine kSeq ?_
        refine kRegion rfl ?_
        refine lV (yCall rfl .n C15 (fun w hw => alive_any w)) rfl rfl ?_
        refine lV (yAssign rfl) rfl rfl ?_
        refine lNil ?_
        refine kThen ?_
        refine kRet ?_
        refine fRet rfl (.t rfl .n) (endRet ?_)
        first | rfl | (simp [packV, *]; done)
end Go.Proofs.Ytoefcofplkbnkaa
