/-
  Walks: numbers drawn; plates that are truly made.
-/
import Derived.Test.YtlcdohhhhlhpmaaIa
namespace Go.Proofs.Ytlcdohhhhlhpmaa
open ZW

def drawI (l : List Nat) (k : Nat) (n : Int) : Int := ((l.getD (k % l.length) 0 + 31 * k : Nat) : Int) % n
theorem draw_bd (l : List Nat) (k : Nat) {n : Int} (h : 0 < n) : 0 ≤ drawI l k n ∧ drawI l k n < n := ⟨Int.emod_nonneg _ (by omega), Int.emod_lt_of_pos _ h⟩
abbrev l16C (l : List Nat) (i : Nat) : List Value := [.int .u16 (l.getD i 0 : Nat)]
theorem mne {nb nc b : Nat} {o o' : Obj} (h : nb ≠ b) (k : nc ≠ b) : ∀ p ∈ ([(nb, o), (nc, o')] : Heap), p.1 ≠ b := by
  intro p hp
  simp only [List.mem_cons, List.not_mem_nil, or_false] at hp
  rcases hp with rfl | rfl
  · exact h
  · exact k
theorem mne3 {nb nc nf b : Nat} {o o' o2 : Obj} (h : nb ≠ b) (k : nc ≠ b) (j : nf ≠ b) : ∀ p ∈ ([(nb, o), (nc, o'), (nf, o2)] : Heap), p.1 ≠ b := by
  intro p hp
  simp only [List.mem_cons, List.not_mem_nil, or_false] at hp
  rcases hp with rfl | rfl | rfl
  · exact h
  · exact k
  · exact j
/-- Where numbers are drawn from. -/
structure DrawIn (w : World) (nb nc : Nat) (a : Option Addr) (c : Nat) (l : List Nat) : Prop where
  box : w.heap[nc]? = some (blk [.slice a l.length c] 43)
  s : SlE w a l.length 1 (l16C l)
structure DrawOk (nb nc : Nat) (a : Option Addr) (l : List Nat) : Prop where
  ne : nb ≠ nc
  na : nb ≠ sblk a
  nc : nc ≠ sblk a
  pos : 0 < l.length
  q : ∀ x ∈ l, x < 65536
abbrev drawF (nb nc : Nat) : Value := .func (.func 92) [].toArray [.pointer (some ⟨nb, 0, none⟩), .pointer (some ⟨nc, 0, none⟩)].toArray
theorem Eff.three' {W : World} {b c d : Nat} {o p q : Obj} (h : W.heap[b]? = some o) (k : W.heap[c]? = some p) (j : W.heap[d]? = some q) (h1 : b ≠ c) (h2 : b ≠ d) (h3 : c ≠ d) : Eff W [(b, o), (c, p), (d, q)] [] W := by
  have hlt : b < W.heap.size := by rw [Array.getElem?_eq_some_iff] at h; exact h.1
  have hlt' : c < W.heap.size := by rw [Array.getElem?_eq_some_iff] at k; exact k.1
  have hlt2 : d < W.heap.size := by rw [Array.getElem?_eq_some_iff] at j; exact j.1
  refine ⟨rfl, rfl, rfl, Nat.le_refl _, fun _ _ _ => rfl, fun q hq => ?_, fun _ hp => by simp at hp, fun q hq => ?_, by simp [h1, h2, h3]⟩
  · simp only [List.append_nil, List.mem_cons, List.not_mem_nil, or_false] at hq; rcases hq with rfl | rfl | rfl; (· exact h); (· exact k); exact j
  · simp only [List.mem_cons, List.not_mem_nil, or_false] at hq; rcases hq with rfl | rfl | rfl; (· exact hlt); (· exact hlt'); exact hlt2
theorem endW3 {W : World} {L : Heap} {b c d : Nat} {o o' p q : Obj} {v u : Value} (hv : u = v) (ho : o = o') (hc : W.heap[c]? = some p) (hd : W.heap[d]? = some q) : ∀ w, Eff W [(b, o), (c, p), (d, q)] L w → Wr W b o' v (.returned u) w := fun w hw => by
  subst ho
  refine ⟨by rw [hv], hw.os, hw.tape, hw.output, hw.size, fun k hk hM => ?_, fun q hq => ?_, fun q hq => by simp at hq, fun q hq => ?_, by simp⟩
  · by_cases hkc : k = c
    · subst hkc; rw [hc]; exact hw.own (k, p) (by simp)
    · by_cases hkd : k = d
      · subst hkd; rw [hd]; exact hw.own (k, q) (by simp)
      · exact hw.frame k hk fun q hq => by
          simp only [List.mem_cons, List.not_mem_nil, or_false] at hq
          rcases hq with rfl | rfl | rfl
          · exact hM (b, o) (by simp)
          · exact fun h => hkc h.symm
          · exact fun h => hkd h.symm
  · simp only [List.append_nil, List.mem_cons, List.not_mem_nil, or_false] at hq
    subst hq
    exact hw.own (b, o) (by simp)
  · simp only [List.mem_cons, List.not_mem_nil, or_false] at hq
    subst hq
    exact hw.old (b, o) (by simp)
set_option maxRecDepth 100000 in
theorem draw1_any (nb nc : Nat) (a : Option Addr) (c : Nat) (l : List Nat) (k : Nat) (n : Int) (w : World) (hb : w.heap[nb]? = some (blk [i64 (k : Nat)] 3)) (hd : DrawIn w nb nc a c l) (ho : DrawOk nb nc a l) (hk : k < 100000) (hn : 0 < n) :
    Calls Try.prog 92 [i64 n, .pointer (some ⟨nb, 0, none⟩), .pointer (some ⟨nc, 0, none⟩)].toArray w (Wr w nb (blk [i64 ((k + 1 : Nat) : Int)] 3) (i64 (drawI l (k + 1) n))) := by
  have hc := hd.box
  have hpos := ho.pos
  have hm : (k + 1) % l.length < l.length := Nat.mod_lt _ hpos
  have hq := ho.q _ (getD_mem hm 0)
  refine fEnterM (Eff.two hb hc ho.ne) Try.func92 rfl Try.ntmps92 rfl ?_
  refine kSeq ?_
  refine kRegion rfl ?_
  refine lV (yAssign rfl) rfl rfl ?_
  refine lNil ?_
  refine kThen ?_
  refine kSeq ?_
  refine kRegion rfl ?_
  refine lV (yLoad1 rfl O3 (cOwn 0 rfl rfl)) rfl rfl ?_
  refine lV (yAdd rfl rfl (by omega)) rfl rfl ?_
  refine same (t := 6) (u := i64 ((k + 1 : Nat) : Int)) rfl (by congr 1) ?_
  refine lE rfl ?_
  refine eStoreM 0 rfl rfl rfl rfl K3 rfl (rfl) ?_
  refine lNil ?_
  refine kThen ?_
  refine kSeq ?_
  refine kDrawE [(0, none), (1, none), (2, none), (5, none), (6, none), (8, none)] [] [0, 1, 2, 3, 4, 5, 6, 7, 8, 9, 10, 11, 12, 13] 0 hMix (by kernel_rfl) ?_
  refine .run rfl (yLoad1 rfl O43 (cOwn 1 rfl rfl)) rfl rfl ?_
  refine .run rfl (yLoad1 rfl O3 (cOwn 0 rfl rfl)) rfl rfl ?_
  refine .run rfl (yLoad1 rfl O43 (cOwn 1 rfl rfl)) rfl rfl ?_
  refine .run rfl (yLen rfl S43) rfl rfl ?_
  refine .run rfl (yvSame (u := i64 (((k + 1) % l.length : Nat) : Int)) (yRem rfl rfl (by omega) (by omega)) (by congr 1)) rfl rfl ?_
  refine .run rfl (yIndexS  rfl rfl S43 (hd.s.r (mne ho.na ho.nc)) (hm)) rfl rfl ?_
  refine .run rfl (yLoad1 rfl O60 (cSl0 (hd.s.r (mne ho.na ho.nc)) (hm) rfl)) rfl rfl ?_
  refine .run rfl (yConvInt rfl U60 U3 (conv_ok (by omega))) rfl rfl ?_
  refine .run rfl (yLoad1 rfl O3 (cOwn 0 rfl rfl)) rfl rfl ?_
  refine .run rfl (yMul rfl rfl (by omega)) rfl rfl ?_
  refine .run rfl (yvSame (u := i64 ((l.getD ((k + 1) % l.length) 0 + 31 * (k + 1) : Nat) : Int)) (yAdd rfl rfl (by omega)) (by congr 1)) rfl rfl ?_
  refine .run rfl (yMove rfl) rfl rfl ?_
  refine .run rfl (yRem rfl rfl (by omega) (by omega)) rfl rfl ?_
  refine .run rfl (yAssign rfl) rfl rfl ?_
  refine .done ?_
  refine effDone closedSt (hLeft [0, 1, 2, 5, 6, 8] (by kernel_rfl) (.c (fun _ _ hs => hs.ef) (.c (fun _ _ hs => hs.ef) (.c (fun _ _ hs => hs.ef) (.c (fun _ _ hs => hs.ef) (.c (fun _ _ hs => hs.ef) (.c (fun _ _ hs => hs.ef) .n))))))) (by kernel_rfl) ?_
  refine kThen ?_
  refine kRet ?_
  refine fRet rfl (.t rfl .n) ?_
  exact endW2 rfl rfl hc
/-- Around a number. -/
abbrev aroundV (l : List Nat) (k : Nat) (x : Int) : Int × Int := (max 0 (x - drawI l (k + 1) 8), x + drawI l (k + 1 + 1) 8)
set_option maxRecDepth 100000 in
theorem around_any (nb nc nf : Nat) (a : Option Addr) (c : Nat) (l : List Nat) (k : Nat) (x : Int) (w : World) (hb : w.heap[nb]? = some (blk [i64 (k : Nat)] 3)) (hd : DrawIn w nb nc a c l) (hf : w.heap[nf]? = some (blk [drawF nb nc] 49)) (ho : DrawOk nb nc a l)
    (hf1 : nb ≠ nf) (hf2 : nc ≠ nf) (hf3 : nf ≠ sblk a) (hk : k < 90000) (hx : 0 ≤ x ∧ x ≤ 1000000) :
    Calls Try.prog 91 [i64 x, i64 8, .pointer (some ⟨nf, 0, none⟩)].toArray w (Wr w nb (blk [i64 ((k + 1 + 1 : Nat) : Int)] 3) (.agg (rowE (aroundV l k x)).toArray)) := by
  have hc := hd.box
  have b1 := draw_bd l (k + 1) (n := 8) (by omega)
  have b2 := draw_bd l (k + 1 + 1) (n := 8) (by omega)
  refine fEnterM (Eff.three' hb hc hf ho.ne hf1 hf2) Try.func91 rfl Try.ntmps91 rfl ?_
  refine kSeq ?_
  refine kRegion rfl ?_
  refine lE rfl ?_
  refine eAlloc Z23 fun n5 => ?_
  refine lNil ?_
  refine kThen ?_
  refine kSeq ?_
  refine kDrawE [(1, none)] [(7, (fun w => w.heap[nf]? = some (blk [drawF nb nc] 49)))] [0, 1, 2, 6, 7, 8] 7 hMix (by kernel_rfl) ?_
  refine .run rfl (yMove rfl) rfl rfl ?_
  refine .run rfl (yLoad1 rfl O49 (cOwn 2 rfl rfl)) rfl rfl ?_
  refine .run rfl (yMove rfl) rfl rfl ?_
  refine .run rfl (yMove rfl) rfl rfl ?_
  refine .run rfl (yLoad1 rfl O49 (cHeap rfl)) rfl rfl ?_
  refine .run rfl (yMove rfl) rfl rfl ?_
  refine .done ?_
  refine effStep 3 [] (by kernel_rfl) closedSt (hLeft [1, 7] (by kernel_rfl) (.c (fun _ _ hs => hs.ef) (.c (fun _ _ hs => hs.ef.blkAt 2 rfl) .n))) ?_
  refine .c ?_ .n
  refine effOne rfl (gNone rfl (eCallWM 0 rfl rfl (.c rfl .n) C92 (fun w hw hb => draw1_any nb nc a c l k 8 w hb ⟨hw.blkAt 1 rfl, hd.s.eff hw (mne3 ho.na ho.nc hf3)⟩ ho (by omega) (by omega)) trSelf)) ?_
  refine effStep 4 [9] (by kernel_rfl) closedSt (hLeft [7] (by kernel_rfl) (.c (fun _ _ hs => hs.ef.blkAt 2 rfl) .n)) ?_
  refine (.c ?_ (.c ?_ .n))
  · refine effOne rfl (gNone rfl (fV (ySub rfl rfl (by omega)) rfl)) ?_
    refine effStep 5 [9] (by kernel_rfl) closedSt (hLeft [7] (by kernel_rfl) (.c (fun _ _ hs => hs.ef.blkAt 2 rfl) .n)) ?_
    refine (.c ?_ (.c ?_ .n))
    · refine effOne rfl (gNone rfl (fV (yMax rfl rfl) rfl)) ?_
      refine effStep 9 [] (by kernel_rfl) closedSt (hLeft [7] (by kernel_rfl) (.c (fun _ _ hs => hs.ef.blkAt 2 rfl) .n)) ?_
      refine .c ?_ .n
      refine effOne rfl (gNone rfl (eCallWM 0 rfl rfl (.c rfl .n) C92 (fun w hw hb => draw1_any nb nc a c l (k + 1) 8 w hb ⟨hw.blkAt 1 rfl, hd.s.eff hw (mne3 ho.na ho.nc hf3)⟩ ho (by omega) (by omega)) trSelf)) ?_
      refine effStep 10 [] (by kernel_rfl) closedSt (hLeft [] (by kernel_rfl) .n) ?_
      refine .c ?_ .n
      refine effOne rfl (gNone rfl (fV (yAdd rfl rfl (by omega)) rfl)) ?_
      refine effStep 11 [] (by kernel_rfl) closedSt (hLeft [] (by kernel_rfl) .n) ?_
      refine .c ?_ .n
      refine effOne rfl (gNone rfl (fV (yCall rfl (.c rfl (.c rfl .n)) C34 (fun w hw => spanL_any _ _ w)) rfl)) ?_
      refine effStep 12 [] (by kernel_rfl) closedSt (hLeft [] (by kernel_rfl) .n) ?_
      refine .c ?_ .n
      refine effOne rfl (gNone rfl (fStoreL 0 rfl rfl rfl rfl K23 rfl (rfl))) ?_
      refine effDone closedSt (hLeft [] (by kernel_rfl) .n) (by kernel_rfl) ?_
      refine kThen ?_
      refine kRet ?_
      refine fRet rfl (.cA (us := [_, _]) rfl A23 (cOwn 3 rfl rfl) .n) ?_
      exact endW3 rfl rfl hc hf
    · refine effOne rfl (gNone rfl (eCallWM 0 rfl rfl (.c rfl .n) C92 (fun w hw hb => draw1_any nb nc a c l (k + 1) 8 w hb ⟨hw.blkAt 1 rfl, hd.s.eff hw (mne3 ho.na ho.nc hf3)⟩ ho (by omega) (by omega)) trSelf)) ?_
      refine effStep 5 [10] (by kernel_rfl) closedSt (hLeft [] (by kernel_rfl) .n) ?_
      refine (.c ?_ (.c ?_ .n))
      · refine effOne rfl (gNone rfl (fV (yMax rfl rfl) rfl)) ?_
        refine effStep 10 [] (by kernel_rfl) closedSt (hLeft [] (by kernel_rfl) .n) ?_
        refine .c ?_ .n
        refine effOne rfl (gNone rfl (fV (yAdd rfl rfl (by omega)) rfl)) ?_
        refine effStep 11 [] (by kernel_rfl) closedSt (hLeft [] (by kernel_rfl) .n) ?_
        refine .c ?_ .n
        refine effOne rfl (gNone rfl (fV (yCall rfl (.c rfl (.c rfl .n)) C34 (fun w hw => spanL_any _ _ w)) rfl)) ?_
        refine effStep 12 [] (by kernel_rfl) closedSt (hLeft [] (by kernel_rfl) .n) ?_
        refine .c ?_ .n
        refine effOne rfl (gNone rfl (fStoreL 0 rfl rfl rfl rfl K23 rfl (rfl))) ?_
        refine effDone closedSt (hLeft [] (by kernel_rfl) .n) (by kernel_rfl) ?_
        refine kThen ?_
        refine kRet ?_
        refine fRet rfl (.cA (us := [_, _]) rfl A23 (cOwn 3 rfl rfl) .n) ?_
        exact endW3 rfl rfl hc hf
      · refine effOne rfl (gNone rfl (fV (yAdd rfl rfl (by omega)) rfl)) ?_
        refine effStep 5 [] (by kernel_rfl) closedSt (hLeft [] (by kernel_rfl) .n) ?_
        refine .c ?_ .n
        refine effOne rfl (gNone rfl (fV (yMax rfl rfl) rfl)) ?_
        refine effStep 11 [] (by kernel_rfl) closedSt (hLeft [] (by kernel_rfl) .n) ?_
        refine .c ?_ .n
        refine effOne rfl (gNone rfl (fV (yCall rfl (.c rfl (.c rfl .n)) C34 (fun w hw => spanL_any _ _ w)) rfl)) ?_
        refine effStep 12 [] (by kernel_rfl) closedSt (hLeft [] (by kernel_rfl) .n) ?_
        refine .c ?_ .n
        refine effOne rfl (gNone rfl (fStoreL 0 rfl rfl rfl rfl K23 rfl (rfl))) ?_
        refine effDone closedSt (hLeft [] (by kernel_rfl) .n) (by kernel_rfl) ?_
        refine kThen ?_
        refine kRet ?_
        refine fRet rfl (.cA (us := [_, _]) rfl A23 (cOwn 3 rfl rfl) .n) ?_
        exact endW3 rfl rfl hc hf
  · refine effOne rfl (gNone rfl (eCallWM 0 rfl rfl (.c rfl .n) C92 (fun w hw hb => draw1_any nb nc a c l (k + 1) 8 w hb ⟨hw.blkAt 1 rfl, hd.s.eff hw (mne3 ho.na ho.nc hf3)⟩ ho (by omega) (by omega)) trSelf)) ?_
    refine effStep 4 [10] (by kernel_rfl) closedSt (hLeft [] (by kernel_rfl) .n) ?_
    refine (.c ?_ (.c ?_ .n))
    · refine effOne rfl (gNone rfl (fV (ySub rfl rfl (by omega)) rfl)) ?_
      refine effStep 5 [10] (by kernel_rfl) closedSt (hLeft [] (by kernel_rfl) .n) ?_
      refine (.c ?_ (.c ?_ .n))
      · refine effOne rfl (gNone rfl (fV (yMax rfl rfl) rfl)) ?_
        refine effStep 10 [] (by kernel_rfl) closedSt (hLeft [] (by kernel_rfl) .n) ?_
        refine .c ?_ .n
        refine effOne rfl (gNone rfl (fV (yAdd rfl rfl (by omega)) rfl)) ?_
        refine effStep 11 [] (by kernel_rfl) closedSt (hLeft [] (by kernel_rfl) .n) ?_
        refine .c ?_ .n
        refine effOne rfl (gNone rfl (fV (yCall rfl (.c rfl (.c rfl .n)) C34 (fun w hw => spanL_any _ _ w)) rfl)) ?_
        refine effStep 12 [] (by kernel_rfl) closedSt (hLeft [] (by kernel_rfl) .n) ?_
        refine .c ?_ .n
        refine effOne rfl (gNone rfl (fStoreL 0 rfl rfl rfl rfl K23 rfl (rfl))) ?_
        refine effDone closedSt (hLeft [] (by kernel_rfl) .n) (by kernel_rfl) ?_
        refine kThen ?_
        refine kRet ?_
        refine fRet rfl (.cA (us := [_, _]) rfl A23 (cOwn 3 rfl rfl) .n) ?_
        exact endW3 rfl rfl hc hf
      · refine effOne rfl (gNone rfl (fV (yAdd rfl rfl (by omega)) rfl)) ?_
        refine effStep 5 [] (by kernel_rfl) closedSt (hLeft [] (by kernel_rfl) .n) ?_
        refine .c ?_ .n
        refine effOne rfl (gNone rfl (fV (yMax rfl rfl) rfl)) ?_
        refine effStep 11 [] (by kernel_rfl) closedSt (hLeft [] (by kernel_rfl) .n) ?_
        refine .c ?_ .n
        refine effOne rfl (gNone rfl (fV (yCall rfl (.c rfl (.c rfl .n)) C34 (fun w hw => spanL_any _ _ w)) rfl)) ?_
        refine effStep 12 [] (by kernel_rfl) closedSt (hLeft [] (by kernel_rfl) .n) ?_
        refine .c ?_ .n
        refine effOne rfl (gNone rfl (fStoreL 0 rfl rfl rfl rfl K23 rfl (rfl))) ?_
        refine effDone closedSt (hLeft [] (by kernel_rfl) .n) (by kernel_rfl) ?_
        refine kThen ?_
        refine kRet ?_
        refine fRet rfl (.cA (us := [_, _]) rfl A23 (cOwn 3 rfl rfl) .n) ?_
        exact endW3 rfl rfl hc hf
    · refine effOne rfl (gNone rfl (fV (yAdd rfl rfl (by omega)) rfl)) ?_
      refine effStep 4 [] (by kernel_rfl) closedSt (hLeft [] (by kernel_rfl) .n) ?_
      refine .c ?_ .n
      refine effOne rfl (gNone rfl (fV (ySub rfl rfl (by omega)) rfl)) ?_
      refine effStep 5 [] (by kernel_rfl) closedSt (hLeft [] (by kernel_rfl) .n) ?_
      refine .c ?_ .n
      refine effOne rfl (gNone rfl (fV (yMax rfl rfl) rfl)) ?_
      refine effStep 11 [] (by kernel_rfl) closedSt (hLeft [] (by kernel_rfl) .n) ?_
      refine .c ?_ .n
      refine effOne rfl (gNone rfl (fV (yCall rfl (.c rfl (.c rfl .n)) C34 (fun w hw => spanL_any _ _ w)) rfl)) ?_
      refine effStep 12 [] (by kernel_rfl) closedSt (hLeft [] (by kernel_rfl) .n) ?_
      refine .c ?_ .n
      refine effOne rfl (gNone rfl (fStoreL 0 rfl rfl rfl rfl K23 rfl (rfl))) ?_
      refine effDone closedSt (hLeft [] (by kernel_rfl) .n) (by kernel_rfl) ?_
      refine kThen ?_
      refine kRet ?_
      refine fRet rfl (.cA (us := [_, _]) rfl A23 (cOwn 3 rfl rfl) .n) ?_
      exact endW3 rfl rfl hc hf
end Go.Proofs.Ytlcdohhhhlhpmaa
