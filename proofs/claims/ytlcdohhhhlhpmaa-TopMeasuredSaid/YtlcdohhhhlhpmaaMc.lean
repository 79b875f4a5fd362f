/-
  Walk: TopMeasured.
-/
import Derived.Test.YtlcdohhhhlhpmaaMb
namespace ZW
open Go
theorem SubP.h {p : Nat × Obj} {r L L' : Heap} (h : L = p :: L') (k : SubP r L') : SubP (p :: r) L := by subst h; exact .c 0 rfl k
theorem SubP.k {p : Nat × Obj} {r L L' : Heap} (h : L = p :: L') (k : SubP r L') : SubP r L := by subst h; exact .d 0 k
end ZW
namespace Go.Proofs.Ytlcdohhhhlhpmaa
open ZW

theorem own_b {sz : Nat} {g : Own} {es : List (List Value)} (h : OS sz g es) (hn : es ≠ []) : ∃ n c l, g = .b n c l := by
  cases g with
  | e a => exact absurd h.at_ hn
  | b n c l => exact ⟨n, c, l, rfl⟩
theorem drawOk_of {W w : World} {na nb : Nat} {a : Option Addr} {l : List Nat} {o o' : Obj} (hw : Eff W [] [(na, o), (nb, o')] w) (hs : SlE W a l.length 1 (l16C l)) (h0 : 0 < l.length) (hq : ∀ x ∈ l, x < 65536) : DrawOk na nb a l := by
  have h1 : W.heap.size ≤ na := hw.new (na, o) (by simp)
  have h2 : W.heap.size ≤ nb := hw.new (nb, o') (by simp)
  have hnd := hw.nd
  simp at hnd
  have hb := sl_lt hs h0
  exact ⟨hnd, by omega, by omega, h0, hq⟩
abbrev rowV (v : Int) : List Value := [i64 v]
abbrev rowX (m : Int × Int) : List Value := [i64 m.1]
theorem ne_of {L : Heap} (h : (L.map (·.1)).Nodup) {i j : Nat} (hij : i ≠ j) {p q : Nat × Obj} (hi : L[i]? = some p) (hj : L[j]? = some q) : p.1 ≠ q.1 := by
  intro he
  obtain ⟨h1, e1⟩ := List.getElem?_eq_some_iff.1 hi
  obtain ⟨h2, e2⟩ := List.getElem?_eq_some_iff.1 hj
  have h3 : (L.map (·.1))[i]'(by simpa using h1) = (L.map (·.1))[j]'(by simpa using h2) := by simp [e1, e2, he]
  exact hij ((List.getElem_inj h).1 h3)
theorem kl {k m n : Nat} (h : k ≤ m) (hd : Nat.blt (m + n) 100000 = true) : k + n < 100000 := Nat.lt_of_le_of_lt (Nat.add_le_add_right h n) (Nat.le_of_ble_eq_true hd)
theorem nodup4 {a b c d : Nat} (h1 : a ≠ b) (h2 : a ≠ c) (h3 : a ≠ d) (h4 : b ≠ c) (h5 : b ≠ d) (h6 : c ≠ d) : [a, b, c, d].Nodup := by simp [h1, h2, h3, h4, h5, h6]
theorem ndL {W w : World} {L : Heap} (h : Eff W [] L w) : (L.map (·.1)).Nodup := by simpa using h.nd
theorem SubP.rot4 (G R T U : Heap) : SubP (((R ++ T) ++ U) ++ G) (((G ++ R) ++ T) ++ U) := by
  have := SubP.comm ((R ++ T) ++ U) G
  simp only [← List.append_assoc] at this ⊢
  exact this
abbrev mm0 (g : Own) (n : Nat) (d : Int) : List Value := [osV g n, i64 0, i64 0, i64 (1 + d), i64 0, i64 131072, .slice none 0 0]
abbrev sq0 (lo hi y d : Int) : StarV := ⟨(max 0 lo, min 32768 hi), (y, y + d), false, (0, 0), (0, 0)⟩
abbrev sq1 (l : List Nat) (lo hi y d : Int) (r : Nat) (p q : Int) : StarV := ⟨(max 0 lo, min 32768 hi), (y, y + d), true, (p - drawQ l (r + 1) 5, p + drawQ l (r + 1 + 1) 5), (q - drawQ l (r + 1 + 1 + 1) 5, q + drawQ l (r + 1 + 1 + 1 + 1) 5)⟩
abbrev zq1 (l : List Nat) (lo hi y d : Int) (r : Nat) (p q : Int) : StarV × Nat := (sq1 l lo hi y d r p q, r + 1 + 1 + 1 + 1)
theorem lenS4 (x : Int × Int × Bool) : ∀ y ∈ ([Scr.rowS x] : List (List Value)), y.length = 3 := by intro y hy; simp only [List.mem_singleton] at hy; subst hy; rfl
theorem oneS4 (x : Int × Int × Bool) : ∀ y ∈ ([Scr.rowS x] : List (List Value)), ∀ u ∈ y, u.oneCell' = true := by
  intro y hy u hu
  simp only [List.mem_singleton] at hy
  subst hy
  simp only [List.mem_cons, List.not_mem_nil, or_false] at hu
  rcases hu with rfl | rfl | rfl <;> rfl
theorem lenE4 (x : Int × Int) : ∀ y ∈ ([Scr.rowE x] : List (List Value)), y.length = 2 := by intro y hy; simp only [List.mem_singleton] at hy; subst hy; rfl
theorem oneE4 (x : Int × Int) : ∀ y ∈ ([Scr.rowE x] : List (List Value)), ∀ u ∈ y, u.oneCell' = true := by
  intro y hy u hu
  simp only [List.mem_singleton] at hy
  subst hy
  simp only [List.mem_cons, List.not_mem_nil, or_false] at hu
  rcases hu with rfl | rfl <;> rfl
section
variable {P : Program} {N : Nat} {S : Slots} {D : List Deferred} {W : World} {M L : Heap} {F : Act → World → Prop}
theorem withEf {p : Prop} (h : ∀ w, Eff W M L w → p) (k : p → Tr (St N S D W M L) F) : Tr (St N S D W M L) F := fun a w hs => k (h w hs.ef) a w hs
end
set_option maxHeartbeats 8000000 in
set_option maxRecDepth 100000 in
theorem meas_any (a : Option Addr) (c : Nat) (l : List Nat) (w : World) (hl : SlE w a l.length 1 (l16C l)) (hq : ∀ x ∈ l, x < 65536) : Calls Try.prog 12 [.slice a l.length c].toArray w (Ret w (.bool true)) := by
  refine fEnter Try.func12 rfl Try.ntmps12 rfl ?_
  refine kSeq ?_
  refine kRegion rfl ?_
  refine lV (yAssign rfl) rfl rfl ?_
  refine lNil ?_
  refine kThen ?_
  refine kSeq ?_
  refine kSeq ?_
  refine kRegion rfl ?_
  refine lV (yMove rfl) rfl rfl ?_
  refine lV (yLen rfl S43) rfl rfl ?_
  refine lV (yEql rfl rfl) rfl rfl ?_
  refine split (t := 44) rfl (fun h44 => ?_) (fun h44 => ?_)
  · refine lNil ?_
    refine kThen ?_
    refine kIfT rfl ?_
    refine kSeq ?_
    refine kRegion rfl ?_
    refine lV (yCall rfl .n C46 (fun w hw => alive4_any w)) rfl rfl ?_
    refine lV (yAssign rfl) rfl rfl ?_
    refine lNil ?_
    refine kThen ?_
    refine kRet ?_
    refine kThenR ?_
    refine fRet rfl (.t rfl .n) (endRet ?_)
    rfl
  · refine lNil ?_
    refine kThen ?_
    refine kIfF rfl ?_
    refine kSkip ?_
    refine kThen ?_
    refine kSeq ?_
    refine kRegion rfl ?_
    refine lV (yMove rfl) rfl rfl ?_
    refine lE rfl ?_
    refine eCallO rfl (.c rfl .n) C47 (fun w hw => draws4_any a c l.length w) fun x _ => ?_
    obtain ⟨na, nb⟩ := x
    dsimp only
    refine withEf (fun w hw => drawOk_of hw hl (by omega) hq) fun hO => ?_
    refine lE rfl ?_
    refine eAlloc Z49 fun n3 => ?_
    refine lE rfl ?_
    refine eStoreL 0 rfl rfl rfl rfl K49 rfl (rfl) ?_
    refine lNil ?_
    refine kThen ?_
    refine kSeq ?_
    refine kRegion rfl ?_
    refine lV (yLoad1 rfl O49 (cOwn 0 rfl rfl)) rfl rfl ?_
    refine lE rfl ?_
    refine eCallW 1 rfl rfl (.c rfl .n) C95 (fun w hw hb => draw4_any na nb a c l (0) (6) w hb ⟨hw.blkAt 2 rfl, hl.eff0 hw⟩ hO (by decide) (by decide)) ?_
    obtain ⟨d0, ed0, bd0⟩ : ∃ d, drawQ l (0 + 1) (6) = d ∧ 0 ≤ d ∧ d < (6) := ⟨_, rfl, drawQ_bd _ _ (by omega)⟩
    rw [ed0]
    refine lV (yAdd rfl rfl (by omega)) rfl rfl ?_
    refine lV (yCall rfl (.c rfl (.c rfl .n)) C48 (fun w hw => span4_any _ _ w)) rfl rfl ?_
    refine lV (yBuild (.c rfl (.c rfl .n)) (fun w => B75_1_2 w)) rfl rfl ?_
    refine lE rfl ?_
    refine eAlloc Z75 fun n4 => ?_
    refine lE rfl ?_
    refine eStoreL 0 rfl rfl rfl rfl K75 rfl (rfl) ?_
    refine lNil ?_
    refine kThen ?_
    refine kSeq ?_
    refine kSeq ?_
    refine kRegion rfl ?_
    refine lV (yMove rfl) rfl rfl ?_
    refine lNil ?_
    refine kThen ?_
    refine kBlock ?_
    refine kLoopX (ι := Nat × Nat × Own × List (Int × Int)) (fun x => x.1 ≤ 20 ∧ x.2.1 ≤ 1 + 2 * x.1 ∧ x.2.2.2.length = x.1 ∧ (∀ e ∈ x.2.2.2, -4 ≤ e.1 ∧ e.1 ≤ e.2 ∧ e.2 ≤ 7) ∧ OS 2 x.2.2.1 (x.2.2.2.map Scr.rowE)) (fun x => [(53, i64 (x.1 : Nat))]) [(3, _), (4, _)] (fun x => []) (fun x => ([(n4, blk (mm0 x.2.2.1 (x.2.2.2.map Scr.rowE).length d0) 75), (na, blk [i64 ((x.2.1 : Nat) : Int)] 3)] ++ osL 23 x.2.2.1)) [(n3, _), (nb, _)] (fun x => 20 - x.1) (0, 0 + 1, .e none, []) (⟨by dsimp only; omega, by dsimp only; omega, rfl, by simp, OS.empty⟩) rfl (.c rfl .n) (.c rfl (.c rfl .n)) (.c 1 rfl (.c 2 rfl (.c 0 rfl (.c 0 rfl .n)))) ?_
    rintro ⟨i, k, g, es⟩ ⟨hi, hk, hes, hel, hg⟩
    dsimp only at hi hk hes hel hg ⊢
    refine kSeq ?_
    refine kRegion rfl ?_
    refine lV (yLss rfl rfl) rfl rfl ?_
    refine lNil ?_
    refine kThen ?_
    refine kSeq ?_
    refine split (t := 54) rfl (fun h54 => ?_) (fun h54 => ?_)
    · refine kIfT rfl ?_
      refine kSkip ?_
      refine kThen ?_
      refine kSeq ?_
      refine kBlock ?_
      refine kSeq ?_
      refine kRegion rfl ?_
      refine lV (yLoad1 rfl O49 (cOwn 0 rfl rfl)) rfl rfl ?_
      refine lE rfl ?_
      refine eCallW 3 rfl rfl (.c rfl .n) C95 (fun w hw hb => draw4_any na nb a c l (k) (9) w hb ⟨hw.blkAt 1 rfl, hl.eff0 hw⟩ hO (kl (n := 0) (show k ≤ 41 by omega) rfl) (by decide)) ?_
      obtain ⟨d1, ed1, bd1⟩ : ∃ d, drawQ l (k + 1) (9) = d ∧ 0 ≤ d ∧ d < (9) := ⟨_, rfl, drawQ_bd _ _ (by omega)⟩
      rw [ed1]
      refine lV (ySub rfl rfl (by omega)) rfl rfl ?_
      refine lV (yAssign rfl) rfl rfl ?_
      refine lNil ?_
      refine kThen ?_
      have hb2 := drawQ_bd l (k + 1 + 1) (n := 4) (by omega)
      refine kDrawE [(2, some [2]), (5, some [0])] [] [0, 1, 2, 3, 4, 5, 11, 12] 6 hMix (by kernel_rfl) ?_
      refine .run rfl (yFieldAddr rfl F75_0) rfl rfl ?_
      refine .run rfl (yFieldAddr rfl F72_0) rfl rfl ?_
      refine .run rfl (yLoad1 rfl O70 (cOwn 0 rfl rfl)) rfl rfl ?_
      refine .run rfl (yMove rfl) rfl rfl ?_
      refine .run rfl (yMove rfl) rfl rfl ?_
      refine .run rfl (yLoad1 rfl O49 (cOwn 0 rfl rfl)) rfl rfl ?_
      refine .run rfl (yFieldAddr rfl F75_0) rfl rfl ?_
      refine .run rfl (yFieldAddr rfl F72_0) rfl rfl ?_
      refine .done ?_
      refine effStep 6 [] (by kernel_rfl) closedSt (hLeft [2, 5] (by kernel_rfl) (.c (fun _ _ hs => hs.ef.sub (.k rfl (.k rfl (.h rfl .n)))) (.c (fun _ _ hs => hs.ef.sub (.h rfl .n)) .n))) ?_
      refine .c ?_ .n
      refine effOne rfl (gNone rfl (eCallW 3 rfl rfl (.c rfl .n) C95 (fun w hw hb => draw4_any na nb a c l (k + 1) (4) w hb ⟨hw.blkAt 1 rfl, hl.eff0 hw⟩ hO (kl (n := 1) (show k ≤ 41 by omega) rfl) (by decide)) trSelf)) ?_
      refine effStep 7 [] (by kernel_rfl) closedSt (hLeft [2] (by kernel_rfl) (.c (fun _ _ hs => hs.ef.sub (.k rfl (.k rfl (.h rfl .n)))) .n)) ?_
      refine .c ?_ .n
      refine effOne rfl (gNone rfl (fV (yAdd rfl rfl (by omega)) rfl)) ?_
      refine effStep 8 [] (by kernel_rfl) closedSt (hLeft [2] (by kernel_rfl) (.c (fun _ _ hs => hs.ef.sub (.k rfl (.k rfl (.h rfl .n)))) .n)) ?_
      refine .c ?_ .n
      refine effOne rfl (gNone rfl (fV (yCall rfl (.c rfl (.c rfl .n)) C48 (fun w hw => span4_any _ _ w)) rfl)) ?_
      refine effStep 9 [] (by kernel_rfl) closedSt (hLeft [2] (by kernel_rfl) (.c (fun _ _ hs => hs.ef.sub (.k rfl (.k rfl (.h rfl .n)))) .n)) ?_
      refine .c ?_ .n
      refine effOne rfl (gNone rfl (fBuildSlice (.c rfl .n) (fun w => BS70_1_0 w))) ?_
      refine effStep 10 [] (by kernel_rfl) (closedEx fun n67 => closedSt) (hLeft [2] (by kernel_rfl) (.c (fun _ _ ⟨n67, hs⟩ => hs.ef.sub (.k rfl (.k rfl (.k rfl (.h rfl .n))))) .n)) ?_
      refine .c ?_ .n
      refine effOne rfl (opEx fun n67 => (gNone rfl (fAppend (gs := g) [(n67, _), (n3, _), (nb, _), (n4, _), (na, _)] [Scr.rowE (d1 - 4, d1 - 4 + drawQ l (k + 1 + 1) 4)] AP70 rfl rfl .r hg rfl (lenE4 _) (SlN.own 0 rfl rfl) (oneE4 _) (by simp; omega) (by simp; omega)))) ?_
      refine effStep 13 [] (by kernel_rfl) (closedEx fun n67 => (closedEx fun h => closedSt)) (hLeft [] (by kernel_rfl) .n) ?_
      refine .c ?_ .n
      refine effOne rfl (opEx fun n67 => (opEx fun h => (gNone rfl (fStoreL 3 rfl rfl rfl rfl K70 rfl (rfl))))) ?_
      refine effDone (closedEx fun n67 => (closedEx fun h => closedSt)) (hLeft [] (by kernel_rfl) .n) (by kernel_rfl) ?_
      refine trEx fun n67 => ?_
      refine trEx fun h => ?_
      rw [show (es.map Scr.rowE ++ [Scr.rowE (d1 - 4, d1 - 4 + drawQ l (k + 1 + 1) 4)]).length = ((es ++ [(d1 - 4, d1 - 4 + drawQ l (k + 1 + 1) 4)]).map Scr.rowE).length from by rw [List.map_append]; rfl]
      refine kInN ?_
      refine kThen ?_
      refine kRegion rfl ?_
      refine lV (yAdd rfl rfl (by omega)) rfl rfl ?_
      refine lV (yMove rfl) rfl rfl ?_
      refine lNil ?_
      exact kRoundX (i + 1, k + 1 + 1, h.1, es ++ [(d1 - 4, d1 - 4 + drawQ l (k + 1 + 1) 4)]) (⟨by dsimp only; omega, by dsimp only; omega, by simp; omega, fun e he => by rcases List.mem_append.1 he with he | he; (· exact hel e he); (simp only [List.mem_singleton] at he; subst he; exact ⟨by dsimp only; omega, by dsimp only; omega, by dsimp only; omega⟩), by dsimp only; rw [List.map_append]; exact h.2⟩) (by dsimp only; omega) rfl (.c rfl .n) (.c rfl (.c rfl .n)) (.k rfl (.h rfl (.h rfl (.h rfl (.h rfl (by exact SubP.r))))))
    · refine kIfF rfl ?_
      refine kExit ?_
      refine kThenX ?_
      refine kThenX ?_
      refine kInX ?_
      refine kThen ?_
      refine kSeq ?_
      have hlen : es.length = 20 := by omega
      obtain ⟨nE, cE, vE, rfl⟩ := own_b hg (by intro h; have := congrArg List.length h; simp at this; rw [this] at hlen; simp at hlen)
      rw [List.length_map]
      have hk2 : k ≤ 41 := by omega
      have hb3 := drawQ_bd l (k + 1) (n := 4) (by omega)
      have hb4 := drawQ_bd l (k + 1 + 1) (n := 4) (by omega)
      refine kCutX (ι := Unit) (fun _ => True) (fun _ => []) [(3, _), (4, _)] (fun _ => []) (fun _ => [(n4, blk [.slice (some ⟨nE, 0, none⟩) es.length cE, i64 (-drawQ l (k + 1) 4), i64 (drawQ l (k + 1 + 1) 4), i64 (1 + d0), i64 0, i64 131072, .slice none 0 0] 75), (na, blk [i64 ((k + 1 + 1 : Nat) : Int)] 3)]) [(n3, _), (nb, _), (nE, _)] (.c rfl (.c rfl .n)) (.h rfl (.h rfl (.k rfl (.k rfl (.h rfl .n))))) ?_ (fun u1 _ => ?_)
      · refine kDrawE [(0, some [0]), (3, some [0])] [] [0, 3, 6, 7] 5 hMix (by kernel_rfl) ?_
        refine .run rfl (yLoad1 rfl O49 (cOwn 0 rfl rfl)) rfl rfl ?_
        refine .run rfl (yLoad1 rfl O49 (cOwn 0 rfl rfl)) rfl rfl ?_
        refine .run rfl (yFieldAddr rfl F75_0) rfl rfl ?_
        refine .run rfl (yFieldAddr rfl F72_1) rfl rfl ?_
        refine .done ?_
        refine effStep 1 [] (by kernel_rfl) closedSt (hLeft [0, 3] (by kernel_rfl) (.c (fun _ _ hs => hs.ef.sub (.h rfl .n)) (.c (fun _ _ hs => hs.ef.sub (.h rfl .n)) .n))) ?_
        refine .c ?_ .n
        refine effOne rfl (gNone rfl (eCallW 3 rfl rfl (.c rfl .n) C95 (fun w hw hb => draw4_any na nb a c l (k) (4) w hb ⟨hw.blkAt 1 rfl, hl.eff0 hw⟩ hO (kl (n := 0) (show k ≤ 41 by omega) rfl) (by decide)) trSelf)) ?_
        refine effStep 2 [4] (by kernel_rfl) closedSt (hLeft [3] (by kernel_rfl) (.c (fun _ _ hs => hs.ef.sub (.h rfl .n)) .n)) ?_
        refine (.c ?_ (.c ?_ .n))
        · refine effOne rfl (gNone rfl (fV (yNeg rfl (by omega)) rfl)) ?_
          refine effStep 4 [] (by kernel_rfl) closedSt (hLeft [3] (by kernel_rfl) (.c (fun _ _ hs => hs.ef.sub (.h rfl .n)) .n)) ?_
          refine .c ?_ .n
          refine effOne rfl (gNone rfl (eCallW 3 rfl rfl (.c rfl .n) C95 (fun w hw hb => draw4_any na nb a c l (k + 1) (4) w hb ⟨hw.blkAt 1 rfl, hl.eff0 hw⟩ hO (kl (n := 1) (show k ≤ 41 by omega) rfl) (by decide)) trSelf)) ?_
          refine effStep 5 [] (by kernel_rfl) closedSt (hLeft [] (by kernel_rfl) .n) ?_
          refine .c ?_ .n
          refine effOne rfl (gNone rfl (fV (yCall rfl (.c rfl (.c rfl .n)) C48 (fun w hw => span4_any _ _ w)) rfl)) ?_
          refine effStep 8 [] (by kernel_rfl) closedSt (hLeft [] (by kernel_rfl) .n) ?_
          refine .c ?_ .n
          refine effOne rfl (gNone rfl (fStoreL 2 rfl rfl rfl rfl K23 rfl (rfl))) ?_
          refine effDone closedSt (hLeft [] (by kernel_rfl) .n) (by kernel_rfl) ?_
          exact kMeetX (()) (by simp) rfl .n (.c rfl (.c rfl .n)) (.c 0 rfl (.c 0 rfl (.c 2 rfl (.c 0 rfl (.c 0 rfl .n)))))
        · refine effOne rfl (gNone rfl (eCallW 3 rfl rfl (.c rfl .n) C95 (fun w hw hb => draw4_any na nb a c l (k + 1) (4) w hb ⟨hw.blkAt 1 rfl, hl.eff0 hw⟩ hO (kl (n := 1) (show k ≤ 41 by omega) rfl) (by decide)) trSelf)) ?_
          refine effStep 2 [] (by kernel_rfl) closedSt (hLeft [] (by kernel_rfl) .n) ?_
          refine .c ?_ .n
          refine effOne rfl (gNone rfl (fV (yNeg rfl (by omega)) rfl)) ?_
          refine effStep 5 [] (by kernel_rfl) closedSt (hLeft [] (by kernel_rfl) .n) ?_
          refine .c ?_ .n
          refine effOne rfl (gNone rfl (fV (yCall rfl (.c rfl (.c rfl .n)) C48 (fun w hw => span4_any _ _ w)) rfl)) ?_
          refine effStep 8 [] (by kernel_rfl) closedSt (hLeft [] (by kernel_rfl) .n) ?_
          refine .c ?_ .n
          refine effOne rfl (gNone rfl (fStoreL 2 rfl rfl rfl rfl K23 rfl (rfl))) ?_
          refine effDone closedSt (hLeft [] (by kernel_rfl) .n) (by kernel_rfl) ?_
          exact kMeetX (()) (by simp) rfl .n (.c rfl (.c rfl .n)) (.c 0 rfl (.c 0 rfl (.c 2 rfl (.c 0 rfl (.c 0 rfl .n)))))
      · obtain ⟨e1, he1⟩ : ∃ e, e = -drawQ l (k + 1) 4 := ⟨_, rfl⟩
        obtain ⟨e2, he2⟩ : ∃ e, e = drawQ l (k + 1 + 1) 4 := ⟨_, rfl⟩
        rw [← he1, ← he2]
        rw [← he2] at hb4
        have hye : -3 ≤ e1 ∧ e1 ≤ 0 ∧ 0 ≤ e2 ∧ e2 ≤ 3 := by omega
        clear hb3 hb4 he1 he2
        refine kSeq ?_
        refine kRegion rfl ?_
        refine lV (yAssign rfl) rfl rfl ?_
        refine lNil ?_
        refine kThen ?_
        refine kSeq ?_
        refine kRegion rfl ?_
        refine lV (yAssign rfl) rfl rfl ?_
        refine lNil ?_
        refine kThen ?_
        refine kSeq ?_
        refine kSeq ?_
        refine kRegion rfl ?_
        refine lV (yFieldAddr rfl F75_1) rfl rfl ?_
        refine lV (yLoad1 rfl O3 (cOwn 3 rfl rfl)) rfl rfl ?_
        refine lV (yMove rfl) rfl rfl ?_
        refine lNil ?_
        refine kThen ?_
        refine kBlock ?_
        refine kLoopX (ι := Nat × Nat × Own × List Int) (fun x => (x.1 : Int) ≤ 1 + d0 ∧ x.2.1 ≤ 45 + x.1 ∧ x.2.2.2.length = x.1 ∧ (∀ v ∈ x.2.2.2, 200 ≤ v ∧ v ≤ 19699) ∧ OS 1 x.2.2.1 (x.2.2.2.map rowV)) (fun x => [(82, i64 (x.1 : Nat)), (7, osV x.2.2.1 (x.2.2.2.map rowV).length)]) [(3, _), (4, _), (6, _), (81, _)] (fun x => []) (fun x => ([(na, blk [i64 ((x.2.1 : Nat) : Int)] 3)] ++ osL 3 x.2.2.1)) [(n3, _), (nb, _), (nE, _), (n4, _)] (fun x => (1 + d0).toNat - x.1) (0, k + 1 + 1, .e none, []) (⟨by dsimp only; omega, by dsimp only; omega, rfl, by simp, OS.empty⟩) rfl (.c rfl (.c rfl .n)) (.c rfl (.c rfl (.c rfl (.c rfl .n)))) (.h rfl (.h rfl (.h rfl (.h rfl (.h rfl .n))))) ?_
        rintro ⟨j, k2, g2, ps⟩ ⟨hj, hk3, hps, hpb, hg2⟩
        dsimp only at hj hk3 hps hpb hg2 ⊢
        refine kSeq ?_
        refine kRegion rfl ?_
        refine lV (yLss rfl rfl) rfl rfl ?_
        refine lNil ?_
        refine kThen ?_
        refine kSeq ?_
        refine split (t := 83) rfl (fun h83 => ?_) (fun h83 => ?_)
        · refine kIfT rfl ?_
          refine kSkip ?_
          refine kThen ?_
          refine kSeq ?_
          refine kBlock ?_
          refine kRegion rfl ?_
          refine lV (yMove rfl) rfl rfl ?_
          refine lV (yLoad1 rfl O49 (cOwn 0 rfl rfl)) rfl rfl ?_
          refine lV (yMove rfl) rfl rfl ?_
          refine lV (ySub rfl rfl (by omega)) rfl rfl ?_
          refine lE rfl ?_
          refine eCallW 4 rfl rfl (.c rfl .n) C95 (fun w hw hb => draw4_any na nb a c l (k2) (19500) w hb ⟨hw.blkAt 1 rfl, hl.eff0 hw⟩ hO (kl (n := 0) (show k2 ≤ 51 by omega) rfl) (by decide)) ?_
          obtain ⟨d9, ed9, bd9⟩ : ∃ d, drawQ l (k2 + 1) (19500) = d ∧ 0 ≤ d ∧ d < (19500) := ⟨_, rfl, drawQ_bd _ _ (by omega)⟩
          rw [ed9]
          refine lV (yAdd rfl rfl (by omega)) rfl rfl ?_
          refine lE rfl ?_
          refine eBuildSlice (.c rfl .n) (fun w => BS56_1_0 w) fun n90 => ?_
          refine lE rfl ?_
          refine eAppend (gs := g2) [(n90, _), (n3, _), (nb, _), (nE, _), (n4, _), (na, _)] [rowV (200 + d9)] AP56 rfl rfl .r hg2 rfl (by simp) (SlN.own 0 rfl rfl) (by simp; rfl) (by simp; omega) (by simp; omega) fun h2 hh2 => ?_
          refine same (t := 91) (u := osV h2 (List.map rowV (ps ++ [200 + d9])).length) rfl (by rw [List.map_append]; rfl) ?_
          refine lV (yAssign rfl) rfl rfl ?_
          refine lNil ?_
          refine kInN ?_
          refine kThen ?_
          refine kRegion rfl ?_
          refine lV (yAdd rfl rfl (by omega)) rfl rfl ?_
          refine lV (yMove rfl) rfl rfl ?_
          refine lNil ?_
          exact kRoundX (j + 1, k2 + 1, h2, ps ++ [200 + d9]) (⟨by dsimp only; omega, by dsimp only; omega, by simp; omega, fun e he => by rcases List.mem_append.1 he with he | he; (· exact hpb e he); (simp only [List.mem_singleton] at he; subst he; exact ⟨by omega, by omega⟩), by dsimp only; rw [List.map_append]; exact hh2⟩) (by dsimp only; omega) rfl (.c rfl (.c rfl .n)) (.c rfl (.c rfl (.c rfl (.c rfl .n)))) (.k rfl (.h rfl (.h rfl (.h rfl (.h rfl (.h rfl (by exact SubP.r)))))))
        · refine kIfF rfl ?_
          refine kExit ?_
          refine kThenX ?_
          refine kThenX ?_
          refine kInX ?_
          refine kThen ?_
          refine kSeq ?_
          obtain ⟨nP, cP, vP, rfl⟩ := own_b hg2 (by intro h; have := congrArg List.length h; simp at this; rw [this] at hps; simp at hps; omega)
          rw [List.length_map]
          have hbase : Base4 es (e1, e2) (1 + d0) ps := ⟨hlen, hel, hye, by omega, by omega, hpb⟩
          have hk5 : k2 ≤ 51 := by omega
          refine kRegion rfl ?_
          refine lV (yMakeFunc .n (.c rfl (.c rfl .n))) rfl rfl ?_
          refine lV (yAssign rfl) rfl rfl ?_
          refine lNil ?_
          refine kThen ?_
          refine kSeq ?_
          refine kSeq ?_
          refine kRegion rfl ?_
          refine lV (yLoad1 rfl O49 (cOwn 0 rfl rfl)) rfl rfl ?_
          refine lE rfl ?_
          refine eCallW 4 rfl rfl (.c rfl .n) C95 (fun w hw hb => draw4_any na nb a c l (k2) (13) w hb ⟨hw.blkAt 1 rfl, hl.eff0 hw⟩ hO (kl (n := 0) (show k2 ≤ 51 by omega) rfl) (by decide)) ?_
          obtain ⟨d10, ed10, bd10⟩ : ∃ d, drawQ l (k2 + 1) (13) = d ∧ 0 ≤ d ∧ d < (13) := ⟨_, rfl, drawQ_bd _ _ (by omega)⟩
          rw [ed10]
          refine lV (yMove rfl) rfl rfl ?_
          refine lNil ?_
          refine kThen ?_
          refine kBlock ?_
          refine kLoopX (ι := Nat × Nat × Own × List (Int × Int × Bool)) (fun x => (x.1 : Int) ≤ d10 ∧ x.2.1 ≤ 60 + 4 * x.1 ∧ x.2.2.2.length ≤ x.1 ∧ (∀ s ∈ x.2.2.2, good4 ⟨es, (e1, e2), 1 + d0, (0, 131072), []⟩ ps s) ∧ OS 3 x.2.2.1 (x.2.2.2.map Scr.rowS)) (fun x => [(96, i64 (x.1 : Nat))]) [(3, _), (4, _), (6, _), (7, _), (8, _), (95, _)] (fun x => []) (fun x => ([(n4, blk [.slice (some ⟨nE, 0, none⟩) es.length cE, i64 e1, i64 e2, i64 (1 + d0), i64 0, i64 131072, osV x.2.2.1 (x.2.2.2.map Scr.rowS).length] 75), (na, blk [i64 ((x.2.1 : Nat) : Int)] 3)] ++ osL 78 x.2.2.1)) [(n3, _), (nb, _), (nE, _), (nP, _)] (fun x => d10.toNat - x.1) (0, k2 + 1, .e none, []) (⟨by dsimp only; omega, by dsimp only; omega, by simp, by simp, OS.empty⟩) rfl (.c rfl .n) (.c rfl (.c rfl (.c rfl (.c rfl (.c rfl (.c rfl .n)))))) (.c 0 rfl (.c 0 rfl (.c 0 rfl (.c 2 rfl (.c 0 rfl (.c 0 rfl .n)))))) ?_
          rintro ⟨i2, k3, g3, ls⟩ ⟨hi2, hk4, hls, hgd, hg3⟩
          dsimp only at hi2 hk4 hls hgd hg3 ⊢
          refine kSeq ?_
          refine kRegion rfl ?_
          refine lV (yLss rfl rfl) rfl rfl ?_
          refine lNil ?_
          refine kThen ?_
          refine kSeq ?_
          refine split (t := 97) rfl (fun h97 => ?_) (fun h97 => ?_)
          · refine kIfT rfl ?_
            refine kSkip ?_
            refine kThen ?_
            refine kSeq ?_
            refine kBlock ?_
            refine kSeq ?_
            refine kCutX (ι := Nat) (fun z => True) (fun z => [(9, .pointer (some ⟨z, 0, none⟩))]) [(3, _), (4, _), (6, _), (7, _), (8, _), (95, _), (96, _)] (fun z => []) (fun z => ([(z, blk (Scr.rowS (drawQ l (k3 + 1) (1 + d0), 0, decide (drawQ l (k3 + 1 + 1) 2 = 0))) 78), (na, blk [i64 ((k3 + 1 + 1 : Nat) : Int)] 3)] ++ osL 78 g3)) [(n3, _), (nb, _), (nE, _), (nP, _), (n4, _)] (.c rfl (.c rfl (.c rfl (.c rfl (.c rfl (.c rfl (.c rfl .n))))))) (.h rfl (.h rfl (.h rfl (.h rfl (.h rfl .n))))) ?_ (fun n9 _ => ?_)
            · refine kDrawE [(0, some [0]), (2, some [4]), (4, some [0])] [] [0, 1, 2, 4] 6 hMix (by kernel_rfl) ?_
              refine .run rfl (yLoad1 rfl O49 (cOwn 0 rfl rfl)) rfl rfl ?_
              refine .run rfl (yFieldAddr rfl F75_1) rfl rfl ?_
              refine .run rfl (yLoad1 rfl O3 (cOwn 0 rfl rfl)) rfl rfl ?_
              refine .run rfl (yLoad1 rfl O49 (cOwn 0 rfl rfl)) rfl rfl ?_
              refine .done ?_
              refine effStep 3 [8] (by kernel_rfl) closedSt (hLeft [0, 2, 4] (by kernel_rfl) (.c (fun _ _ hs => hs.ef.sub (.h rfl .n)) (.c (fun _ _ hs => hs.ef.sub (.k rfl (.k rfl (.k rfl (.k rfl (.h rfl .n)))))) (.c (fun _ _ hs => hs.ef.sub (.h rfl .n)) .n)))) ?_
              refine (.c ?_ (.c ?_ .n))
              · refine effOne rfl (gNone rfl (eCallW 5 rfl rfl (.c rfl .n) C95 (fun w hw hb => draw4_any na nb a c l (k3) (1 + d0) w hb ⟨hw.blkAt 1 rfl, hl.eff0 hw⟩ hO (kl (n := 0) (show k3 ≤ 108 by omega) rfl) (by omega)) trSelf)) ?_
                refine effStep 5 [8] (by kernel_rfl) closedSt (hLeft [4] (by kernel_rfl) (.c (fun _ _ hs => hs.ef.sub (.h rfl .n)) .n)) ?_
                refine (.c ?_ (.c ?_ .n))
                · refine effOne rfl (gNone rfl (eCallW 5 rfl rfl (.c rfl .n) C95 (fun w hw hb => draw4_any na nb a c l (k3 + 1) (2) w hb ⟨hw.blkAt 1 rfl, hl.eff0 hw⟩ hO (kl (n := 1) (show k3 ≤ 108 by omega) rfl) (by decide)) trSelf)) ?_
                  refine effStep 6 [8] (by kernel_rfl) closedSt (hLeft [] (by kernel_rfl) .n) ?_
                  refine (.c ?_ (.c ?_ .n))
                  · refine effOne rfl (gNone rfl (fV (yEql rfl rfl) rfl)) ?_
                    refine effStep 7 [8] (by kernel_rfl) closedSt (hLeft [] (by kernel_rfl) .n) ?_
                    refine (.c ?_ (.c ?_ .n))
                    · refine effOne rfl (gNone rfl (fV (yBuild (.c rfl (.c rfl .n)) (fun w => B78_0_2 w)) rfl)) ?_
                      refine effStep 8 [] (by kernel_rfl) closedSt (hLeft [] (by kernel_rfl) .n) ?_
                      refine .c ?_ .n
                      refine effOne rfl (gNone rfl (fAlloc Z78)) ?_
                      refine effStep 9 [] (by kernel_rfl) (closedEx fun n9 => closedSt) (hLeft [] (by kernel_rfl) .n) ?_
                      refine .c ?_ .n
                      refine effOne rfl (opEx fun n9 => (gNone rfl (fStoreL 0 rfl rfl rfl rfl K78 rfl (rfl)))) ?_
                      refine effDone (closedEx fun n9 => closedSt) (hLeft [] (by kernel_rfl) .n) (by kernel_rfl) ?_
                      refine trEx fun n9 => ?_
                      exact kMeetX (n9) (trivial) rfl (.c rfl .n) (.c rfl (.c rfl (.c rfl (.c rfl (.c rfl (.c rfl (.c rfl .n))))))) (.c 1 rfl (.c 1 rfl (.c 1 rfl (.c 1 rfl (.c 1 rfl (.c 0 rfl (.c 0 rfl .r)))))))
                    · refine effOne rfl (gNone rfl (fAlloc Z78)) ?_
                      refine effStep 7 [] (by kernel_rfl) (closedEx fun n9 => closedSt) (hLeft [] (by kernel_rfl) .n) ?_
                      refine .c ?_ .n
                      refine effOne rfl (opEx fun n9 => (gNone rfl (fV (yBuild (.c rfl (.c rfl .n)) (fun w => B78_0_2 w)) rfl))) ?_
                      refine effStep 9 [] (by kernel_rfl) (closedEx fun n9 => closedSt) (hLeft [] (by kernel_rfl) .n) ?_
                      refine .c ?_ .n
                      refine effOne rfl (opEx fun n9 => (gNone rfl (fStoreL 0 rfl rfl rfl rfl K78 rfl (rfl)))) ?_
                      refine effDone (closedEx fun n9 => closedSt) (hLeft [] (by kernel_rfl) .n) (by kernel_rfl) ?_
                      refine trEx fun n9 => ?_
                      exact kMeetX (n9) (trivial) rfl (.c rfl .n) (.c rfl (.c rfl (.c rfl (.c rfl (.c rfl (.c rfl (.c rfl .n))))))) (.c 1 rfl (.c 1 rfl (.c 1 rfl (.c 1 rfl (.c 1 rfl (.c 0 rfl (.c 0 rfl .r)))))))
                  · refine effOne rfl (gNone rfl (fAlloc Z78)) ?_
                    refine effStep 6 [] (by kernel_rfl) (closedEx fun n9 => closedSt) (hLeft [] (by kernel_rfl) .n) ?_
                    refine .c ?_ .n
                    refine effOne rfl (opEx fun n9 => (gNone rfl (fV (yEql rfl rfl) rfl))) ?_
                    refine effStep 7 [] (by kernel_rfl) (closedEx fun n9 => closedSt) (hLeft [] (by kernel_rfl) .n) ?_
                    refine .c ?_ .n
                    refine effOne rfl (opEx fun n9 => (gNone rfl (fV (yBuild (.c rfl (.c rfl .n)) (fun w => B78_0_2 w)) rfl))) ?_
                    refine effStep 9 [] (by kernel_rfl) (closedEx fun n9 => closedSt) (hLeft [] (by kernel_rfl) .n) ?_
                    refine .c ?_ .n
                    refine effOne rfl (opEx fun n9 => (gNone rfl (fStoreL 0 rfl rfl rfl rfl K78 rfl (rfl)))) ?_
                    refine effDone (closedEx fun n9 => closedSt) (hLeft [] (by kernel_rfl) .n) (by kernel_rfl) ?_
                    refine trEx fun n9 => ?_
                    exact kMeetX (n9) (trivial) rfl (.c rfl .n) (.c rfl (.c rfl (.c rfl (.c rfl (.c rfl (.c rfl (.c rfl .n))))))) (.c 1 rfl (.c 1 rfl (.c 1 rfl (.c 1 rfl (.c 1 rfl (.c 0 rfl (.c 0 rfl .r)))))))
                · refine effOne rfl (gNone rfl (fAlloc Z78)) ?_
                  refine effStep 5 [] (by kernel_rfl) (closedEx fun n9 => closedSt) (hLeft [4] (by kernel_rfl) (.c (fun _ _ ⟨n9, hs⟩ => hs.ef.sub (.k rfl (.h rfl .n))) .n)) ?_
                  refine .c ?_ .n
                  refine effOne rfl (opEx fun n9 => (gNone rfl (eCallW 6 rfl rfl (.c rfl .n) C95 (fun w hw hb => draw4_any na nb a c l (k3 + 1) (2) w hb ⟨hw.blkAt 2 rfl, hl.eff0 hw⟩ hO (kl (n := 1) (show k3 ≤ 108 by omega) rfl) (by decide)) trSelf))) ?_
                  refine effStep 6 [] (by kernel_rfl) (closedEx fun n9 => closedSt) (hLeft [] (by kernel_rfl) .n) ?_
                  refine .c ?_ .n
                  refine effOne rfl (opEx fun n9 => (gNone rfl (fV (yEql rfl rfl) rfl))) ?_
                  refine effStep 7 [] (by kernel_rfl) (closedEx fun n9 => closedSt) (hLeft [] (by kernel_rfl) .n) ?_
                  refine .c ?_ .n
                  refine effOne rfl (opEx fun n9 => (gNone rfl (fV (yBuild (.c rfl (.c rfl .n)) (fun w => B78_0_2 w)) rfl))) ?_
                  refine effStep 9 [] (by kernel_rfl) (closedEx fun n9 => closedSt) (hLeft [] (by kernel_rfl) .n) ?_
                  refine .c ?_ .n
                  refine effOne rfl (opEx fun n9 => (gNone rfl (fStoreL 0 rfl rfl rfl rfl K78 rfl (rfl)))) ?_
                  refine effDone (closedEx fun n9 => closedSt) (hLeft [] (by kernel_rfl) .n) (by kernel_rfl) ?_
                  refine trEx fun n9 => ?_
                  exact kMeetX (n9) (trivial) rfl (.c rfl .n) (.c rfl (.c rfl (.c rfl (.c rfl (.c rfl (.c rfl (.c rfl .n))))))) (.c 1 rfl (.c 1 rfl (.c 1 rfl (.c 1 rfl (.c 1 rfl (.c 0 rfl (.c 0 rfl .r)))))))
              · refine effOne rfl (gNone rfl (fAlloc Z78)) ?_
                refine effStep 3 [] (by kernel_rfl) (closedEx fun n9 => closedSt) (hLeft [0, 2, 4] (by kernel_rfl) (.c (fun _ _ ⟨n9, hs⟩ => hs.ef.sub (.k rfl (.h rfl .n))) (.c (fun _ _ ⟨n9, hs⟩ => hs.ef.sub (.k rfl (.k rfl (.k rfl (.k rfl (.k rfl (.h rfl .n))))))) (.c (fun _ _ ⟨n9, hs⟩ => hs.ef.sub (.k rfl (.h rfl .n))) .n)))) ?_
                refine .c ?_ .n
                refine effOne rfl (opEx fun n9 => (gNone rfl (eCallW 6 rfl rfl (.c rfl .n) C95 (fun w hw hb => draw4_any na nb a c l (k3) (1 + d0) w hb ⟨hw.blkAt 2 rfl, hl.eff0 hw⟩ hO (kl (n := 0) (show k3 ≤ 108 by omega) rfl) (by omega)) trSelf))) ?_
                refine effStep 5 [] (by kernel_rfl) (closedEx fun n9 => closedSt) (hLeft [4] (by kernel_rfl) (.c (fun _ _ ⟨n9, hs⟩ => hs.ef.sub (.k rfl (.h rfl .n))) .n)) ?_
                refine .c ?_ .n
                refine effOne rfl (opEx fun n9 => (gNone rfl (eCallW 6 rfl rfl (.c rfl .n) C95 (fun w hw hb => draw4_any na nb a c l (k3 + 1) (2) w hb ⟨hw.blkAt 2 rfl, hl.eff0 hw⟩ hO (kl (n := 1) (show k3 ≤ 108 by omega) rfl) (by decide)) trSelf))) ?_
                refine effStep 6 [] (by kernel_rfl) (closedEx fun n9 => closedSt) (hLeft [] (by kernel_rfl) .n) ?_
                refine .c ?_ .n
                refine effOne rfl (opEx fun n9 => (gNone rfl (fV (yEql rfl rfl) rfl))) ?_
                refine effStep 7 [] (by kernel_rfl) (closedEx fun n9 => closedSt) (hLeft [] (by kernel_rfl) .n) ?_
                refine .c ?_ .n
                refine effOne rfl (opEx fun n9 => (gNone rfl (fV (yBuild (.c rfl (.c rfl .n)) (fun w => B78_0_2 w)) rfl))) ?_
                refine effStep 9 [] (by kernel_rfl) (closedEx fun n9 => closedSt) (hLeft [] (by kernel_rfl) .n) ?_
                refine .c ?_ .n
                refine effOne rfl (opEx fun n9 => (gNone rfl (fStoreL 0 rfl rfl rfl rfl K78 rfl (rfl)))) ?_
                refine effDone (closedEx fun n9 => closedSt) (hLeft [] (by kernel_rfl) .n) (by kernel_rfl) ?_
                refine trEx fun n9 => ?_
                exact kMeetX (n9) (trivial) rfl (.c rfl .n) (.c rfl (.c rfl (.c rfl (.c rfl (.c rfl (.c rfl (.c rfl .n))))))) (.c 1 rfl (.c 1 rfl (.c 1 rfl (.c 1 rfl (.c 1 rfl (.c 0 rfl (.c 0 rfl .r)))))))
            · obtain ⟨d11, ed11, bd11⟩ : ∃ d, drawQ l (k3 + 1) (1 + d0) = d ∧ 0 ≤ d ∧ d < 1 + d0 := ⟨_, rfl, drawQ_bd _ _ (by omega)⟩
              rw [ed11]
              obtain ⟨rv, hrv⟩ : ∃ b, decide (drawQ l (k3 + 1 + 1) 2 = 0) = b := ⟨_, rfl⟩
              rw [hrv]
              refine kSeq ?_
              refine kRegion rfl ?_
              refine lV (yMove rfl) rfl rfl ?_
              refine lV (yFieldAddr rfl F78_0) rfl rfl ?_
              refine lV (yLoad1 rfl O3 (cOwn 5 rfl rfl)) rfl rfl ?_
              refine same (t := 108) (u := i64 ((d11.toNat : Nat) : Int)) rfl (by congr 1; omega) ?_
              refine lV (yIndexS  rfl rfl S56 (fun w hw => OS.rowsE (f := rowV) 0 hg2 hw (.c 3 rfl .n)) (by omega)) rfl rfl ?_
              refine lV (yLoad1 rfl O3 (cSl0 (fun w hw => OS.rowsE (f := rowV) 0 hg2 hw (.c 3 rfl .n)) (by omega) rfl)) rfl rfl ?_
              refine lV (yAssign rfl) rfl rfl ?_
              refine lNil ?_
              obtain ⟨pl, hpl⟩ : ∃ v : Int, ps.getD d11.toNat 0 = v := ⟨_, rfl⟩
              have hplb := hpb _ (getD_mem (l := ps) (i := d11.toNat) (by omega) 0)
              rw [hpl] at hplb
              rw [hpl]
              refine kThen ?_
              refine kSeq ?_
              refine kSeq ?_
              refine kRegion rfl ?_
              refine lV (yFieldAddr rfl F78_2) rfl rfl ?_
              refine lV (yLoad1 rfl O4 (cOwn 5 rfl rfl)) rfl rfl ?_
              refine same (t := 112) (u := .bool rv) rfl (rfl) ?_
              refine lNil ?_
              refine kThen ?_
              refine kCutX (ι := Int) (fun z => (if rv = true then 19900 - pl else pl) = z ∧ 200 ≤ z ∧ z ≤ 19700) (fun z => [(10, i64 z)]) [(3, _), (4, _), (6, _), (7, _), (8, _), (9, _), (95, _), (96, _)] (fun z => []) (fun z => (osL 78 g3)) [(n3, _), (nb, _), (nE, _), (nP, _), (n4, _), (n9, _), (na, _)] (.c rfl (.c rfl (.c rfl (.c rfl (.c rfl (.c rfl (.c rfl (.c rfl .n)))))))) (.h rfl (.h rfl (.h rfl (.h rfl (.h rfl (.h rfl (.h rfl .n))))))) ?_ (fun xx hxx => ?_)
              · refine splitB (t := 112) rfl (fun h112 => ?_) (fun h112 => ?_)
                · refine kIfT rfl ?_
                  refine kRegion rfl ?_
                  refine lV (yMove rfl) rfl rfl ?_
                  refine lV (yMove rfl) rfl rfl ?_
                  refine lV (ySub rfl rfl (by omega)) rfl rfl ?_
                  refine lV (yAssign rfl) rfl rfl ?_
                  refine lNil ?_
                  exact kMeetX (19900 - pl) (⟨by rw [if_pos h112], by omega, by omega⟩) rfl (.c rfl .n) (.c rfl (.c rfl (.c rfl (.c rfl (.c rfl (.c rfl (.c rfl (.c rfl .n)))))))) (.h rfl (.h rfl (.h rfl (.h rfl (.h rfl (.h rfl (.h rfl .r)))))))
                · refine kIfF rfl ?_
                  refine kSkip ?_
                  exact kMeetX (pl) (⟨by rw [if_neg (by rw [h112]; decide)], by omega, by omega⟩) rfl (.c rfl .n) (.c rfl (.c rfl (.c rfl (.c rfl (.c rfl (.c rfl (.c rfl (.c rfl .n)))))))) (.h rfl (.h rfl (.h rfl (.h rfl (.h rfl (.h rfl (.h rfl .r)))))))
              · refine kSeq ?_
                refine kRegion rfl ?_
                refine lV (yMove rfl) rfl rfl ?_
                refine lV (yMove rfl) rfl rfl ?_
                refine lE rfl ?_
                refine eCallW 6 rfl rfl (.c rfl .n) C49 (fun w hw hb => reading_any na nb n4 n3 a c l (k3 + 1 + 1) xx (some ⟨nE, 0, none⟩) cE es (e1, e2) (1 + d0) 0 131072 _ w hb ⟨hw.blkAt 1 rfl, hl.eff0 hw⟩ hO (hw.blkAt 4 rfl) (hw.blkAt 0 rfl) (OS.rowsE (f := Scr.rowE) (0, 0) hg hw (.c 2 rfl .n)) (nodup4 (ne_of (ndL hw) (i := 6) (j := 1) (by decide) rfl rfl) (ne_of (ndL hw) (i := 6) (j := 4) (by decide) rfl rfl) (ne_of (ndL hw) (i := 6) (j := 0) (by decide) rfl rfl) (ne_of (ndL hw) (i := 1) (j := 4) (by decide) rfl rfl) (ne_of (ndL hw) (i := 1) (j := 0) (by decide) rfl rfl) (ne_of (ndL hw) (i := 4) (j := 0) (by decide) rfl rfl)) (ne_of (ndL hw) (i := 6) (j := 2) (by decide) rfl rfl) (ne_of (ndL hw) (i := 1) (j := 2) (by decide) rfl rfl) (ne_of (ndL hw) (i := 4) (j := 2) (by decide) rfl rfl) (ne_of (ndL hw) (i := 0) (j := 2) (by decide) rfl rfl) (by have h1 := hw.new _ (List.mem_of_getElem? (i := 4) rfl); have h2 := sl_lt hl (by omega); dsimp only at h1; omega) (by have h1 := hw.new _ (List.mem_of_getElem? (i := 0) rfl); have h2 := sl_lt hl (by omega); dsimp only at h1; omega) (by omega) ⟨by omega, by omega⟩ hlen hel hye) ?_
                obtain ⟨rn, hrn⟩ : ∃ v : Int, readQ l (k3 + 1 + 1) (es.getD (xx / 1000).toNat (0, 0)) (e1, e2) xx = v := ⟨_, rfl⟩
                rw [hrn]
                refine lV (yMove rfl) rfl rfl ?_
                refine lV (yExtract rfl rfl) rfl rfl ?_
                refine lV (yExtract rfl rfl) rfl rfl ?_
                refine lV (yAssign rfl) rfl rfl ?_
                refine lV (yAssign rfl) rfl rfl ?_
                refine lNil ?_
                refine kThen ?_
                refine kSeq ?_
                refine kRegion rfl ?_
                refine lV (yMove rfl) rfl rfl ?_
                refine split (t := 122) rfl (fun h122 => ?_) (fun h122 => ?_)
                · refine lNil ?_
                  refine kThen ?_
                  refine kIfT rfl ?_
                  refine kSeq ?_
                  have hbe := hel _ (getD_mem (l := es) (i := (xx / 1000).toNat) (by omega) (0, 0))
                  have bq1 := drawQ_bd l (k3 + 1 + 1 + 1) (n := (es.getD (xx / 1000).toNat (0, 0)).2 - (es.getD (xx / 1000).toNat (0, 0)).1 + 1) (by omega)
                  have bq2 := drawQ_bd l (k3 + 1 + 1 + 1 + 1) (n := e2 - e1 + 1) (by omega)
                  have hgood : good4 ⟨es, (e1, e2), 1 + d0, (0, 131072), []⟩ ps (d11, rn, rv) := good4_of (t := xx) hlen ⟨by omega, by omega⟩ (by rw [hpl]; exact hxx.1) ⟨by omega, by omega⟩ ⟨bq1.1, by omega⟩ ⟨bq2.1, by dsimp only; omega⟩ hrn.symm h122.1 h122.2
                  refine kRegion rfl ?_
                  refine lV (yMove rfl) rfl rfl ?_
                  refine lV (yFieldAddr rfl F78_1) rfl rfl ?_
                  refine lE rfl ?_
                  refine eStoreL 5 rfl rfl rfl rfl K3 rfl (rfl) ?_
                  refine lNil ?_
                  refine kThen ?_
                  refine kRegion rfl ?_
                  refine lV (yFieldAddr rfl F75_3) rfl rfl ?_
                  refine lV (yLoad1 rfl O73 (cOwn 4 rfl rfl)) rfl rfl ?_
                  refine lV (yLoadA (vs := [_, _, _]) rfl A78 (cOwn 5 rfl rfl)) rfl rfl ?_
                  refine lE rfl ?_
                  refine eBuildSlice (.c rfl .n) (fun w => BS73_1_0 w) fun n128 => ?_
                  refine lE rfl ?_
                  refine eAppend (gs := g3) [(n128, _), (n3, _), (nb, _), (nE, _), (nP, _), (n4, _), (n9, _), (na, _)] [Scr.rowS (d11, rn, rv)] AP73 rfl rfl .r hg3 rfl (lenS4 _) (SlN.own 0 rfl rfl) (oneS4 _) (by simp; omega) (by simp; omega) fun h3 hh3 => ?_
                  refine same (t := 129) (u := osV h3 (List.map Scr.rowS (ls ++ [(d11, rn, rv)])).length) rfl (by rw [List.map_append]; rfl) ?_
                  refine lV (yFieldAddr rfl F75_3) rfl rfl ?_
                  refine lE rfl ?_
                  refine eStoreL 5 rfl rfl rfl rfl K73 rfl (rfl) ?_
                  refine lNil ?_
                  refine kInN ?_
                  refine kThen ?_
                  refine kRegion rfl ?_
                  refine lV (yAdd rfl rfl (by omega)) rfl rfl ?_
                  refine lV (yMove rfl) rfl rfl ?_
                  refine lNil ?_
                  exact kRoundX (i2 + 1, k3 + 1 + 1 + 1 + 1, h3, ls ++ [(d11, rn, rv)]) (⟨by dsimp only; omega, by dsimp only; omega, by simp; omega, fun s hs => (List.mem_append.1 hs).elim (hgd s) fun hs => by simp only [List.mem_singleton] at hs; subst hs; exact hgood, by dsimp only; rw [List.map_append]; exact hh3⟩) (by dsimp only; omega) rfl (.c rfl .n) (.c rfl (.c rfl (.c rfl (.c rfl (.c rfl (.c rfl .n)))))) (.k rfl (.h rfl (.h rfl (.h rfl (.h rfl (.h rfl (.k rfl (.h rfl (by exact SubP.r)))))))))
                · refine lNil ?_
                  refine kThen ?_
                  refine kIfF rfl ?_
                  refine kSkip ?_
                  refine kInN ?_
                  refine kThen ?_
                  refine kRegion rfl ?_
                  refine lV (yAdd rfl rfl (by omega)) rfl rfl ?_
                  refine lV (yMove rfl) rfl rfl ?_
                  refine lNil ?_
                  exact kRoundX (i2 + 1, k3 + 1 + 1 + 1 + 1, g3, ls) (⟨by dsimp only; omega, by dsimp only; omega, by dsimp only; omega, hgd, hg3⟩) (by dsimp only; omega) rfl (.c rfl .n) (.c rfl (.c rfl (.c rfl (.c rfl (.c rfl (.c rfl .n)))))) (.h rfl (.h rfl (.h rfl (.h rfl (.h rfl (.k rfl (.h rfl (by exact SubP.r))))))))
          · refine kIfF rfl ?_
            refine kExit ?_
            refine kThenX ?_
            refine kThenX ?_
            refine kInX ?_
            refine kThen ?_
            refine kSeq ?_
            rw [List.length_map]
            have hmd := made4 hbase (l := ls) (by omega) hgd
            have hk6 : k3 ≤ 108 := by omega
            have v1 := drawQ_bd l (k3 + 1) (n := 900) (by omega)
            have v2 := drawQ_bd l (k3 + 1 + 1) (n := 9000) (by omega)
            have v3 := drawQ_bd l (k3 + 1 + 1 + 1) (n := 9000) (by omega)
            have i134 : In64 (50 + drawQ l (k3 + 1) 900) := ⟨by omega, by omega⟩
            have i137 : In64 (drawQ l (k3 + 1 + 1) 9000 - 4000) := ⟨by omega, by omega⟩
            have i140 : In64 (drawQ l (k3 + 1 + 1 + 1) 9000 - 4000) := ⟨by omega, by omega⟩
            clear hgd
            refine kCutX (ι := Unit) (fun _ => True) (fun _ => [(13, i64 (50 + drawQ l (k3 + 1) 900)), (14, i64 (drawQ l (k3 + 1 + 1) 9000 - 4000)), (15, i64 (drawQ l (k3 + 1 + 1 + 1) 9000 - 4000))]) [(3, _), (4, _), (7, _)] (fun _ => []) (fun _ => ([(na, blk [i64 ((k3 + 1 + 1 + 1 : Nat) : Int)] 3)] ++ osL 78 g3)) [(n3, _), (nb, _), (nE, _), (nP, _), (n4, _)] (.c rfl (.c rfl (.c rfl .n))) (.h rfl (.h rfl (.h rfl (.h rfl (.h rfl .n))))) ?_ (fun u2 _ => ?_)
            · refine kDrawE [(0, some [0]), (3, some [0]), (6, some [0])] [] [0, 3, 6] 9 hMix (by kernel_rfl) ?_
              refine .run rfl (yLoad1 rfl O49 (cOwn 0 rfl rfl)) rfl rfl ?_
              refine .run rfl (yLoad1 rfl O49 (cOwn 0 rfl rfl)) rfl rfl ?_
              refine .run rfl (yLoad1 rfl O49 (cOwn 0 rfl rfl)) rfl rfl ?_
              refine .done ?_
              refine effStep 1 [] (by kernel_rfl) closedSt (hLeft [0, 3, 6] (by kernel_rfl) (.c (fun _ _ hs => hs.ef.sub (.h rfl .n)) (.c (fun _ _ hs => hs.ef.sub (.h rfl .n)) (.c (fun _ _ hs => hs.ef.sub (.h rfl .n)) .n)))) ?_
              refine .c ?_ .n
              refine effOne rfl (gNone rfl (eCallW 5 rfl rfl (.c rfl .n) C95 (fun w hw hb => draw4_any na nb a c l (k3) (900) w hb ⟨hw.blkAt 1 rfl, hl.eff0 hw⟩ hO (kl (n := 0) (show k3 ≤ 108 by omega) rfl) (by decide)) trSelf)) ?_
              refine effStep 2 [4] (by kernel_rfl) closedSt (hLeft [3, 6] (by kernel_rfl) (.c (fun _ _ hs => hs.ef.sub (.h rfl .n)) (.c (fun _ _ hs => hs.ef.sub (.h rfl .n)) .n))) ?_
              refine (.c ?_ (.c ?_ .n))
              · refine effOne rfl (gNone rfl (fV (yAdd rfl rfl (i134)) rfl)) ?_
                refine effStep 4 [] (by kernel_rfl) closedSt (hLeft [3, 6] (by kernel_rfl) (.c (fun _ _ hs => hs.ef.sub (.h rfl .n)) (.c (fun _ _ hs => hs.ef.sub (.h rfl .n)) .n))) ?_
                refine .c ?_ .n
                refine effOne rfl (gNone rfl (eCallW 5 rfl rfl (.c rfl .n) C95 (fun w hw hb => draw4_any na nb a c l (k3 + 1) (9000) w hb ⟨hw.blkAt 1 rfl, hl.eff0 hw⟩ hO (kl (n := 1) (show k3 ≤ 108 by omega) rfl) (by decide)) trSelf)) ?_
                refine effStep 5 [7] (by kernel_rfl) closedSt (hLeft [6] (by kernel_rfl) (.c (fun _ _ hs => hs.ef.sub (.h rfl .n)) .n)) ?_
                refine (.c ?_ (.c ?_ .n))
                · refine effOne rfl (gNone rfl (fV (ySub rfl rfl (i137)) rfl)) ?_
                  refine effStep 7 [] (by kernel_rfl) closedSt (hLeft [6] (by kernel_rfl) (.c (fun _ _ hs => hs.ef.sub (.h rfl .n)) .n)) ?_
                  refine .c ?_ .n
                  refine effOne rfl (gNone rfl (eCallW 5 rfl rfl (.c rfl .n) C95 (fun w hw hb => draw4_any na nb a c l (k3 + 1 + 1) (9000) w hb ⟨hw.blkAt 1 rfl, hl.eff0 hw⟩ hO (kl (n := 2) (show k3 ≤ 108 by omega) rfl) (by decide)) trSelf)) ?_
                  refine effStep 8 [9] (by kernel_rfl) closedSt (hLeft [] (by kernel_rfl) .n) ?_
                  refine (.c ?_ (.c ?_ .n))
                  · refine effOne rfl (gNone rfl (fV (ySub rfl rfl (i140)) rfl)) ?_
                    refine effStep 9 [] (by kernel_rfl) closedSt (hLeft [] (by kernel_rfl) .n) ?_
                    refine .c ?_ .n
                    refine effOne rfl (gNone rfl (fV (yAssign rfl) rfl)) ?_
                    refine effStep 10 [] (by kernel_rfl) closedSt (hLeft [] (by kernel_rfl) .n) ?_
                    refine .c ?_ .n
                    refine effOne rfl (gNone rfl (fV (yAssign rfl) rfl)) ?_
                    refine effStep 11 [] (by kernel_rfl) closedSt (hLeft [] (by kernel_rfl) .n) ?_
                    refine .c ?_ .n
                    refine effOne rfl (gNone rfl (fV (yAssign rfl) rfl)) ?_
                    refine effDone closedSt (hLeft [] (by kernel_rfl) .n) (by kernel_rfl) ?_
                    exact kMeetX (()) (by simp) rfl (.c rfl (.c rfl (.c rfl .n))) (.c rfl (.c rfl (.c rfl .n))) (.h rfl (.h rfl (.h rfl (.h rfl (.h rfl (.h rfl .r))))))
                  · refine effOne rfl (gNone rfl (fV (yAssign rfl) rfl)) ?_
                    refine effStep 8 [10] (by kernel_rfl) closedSt (hLeft [] (by kernel_rfl) .n) ?_
                    refine (.c ?_ (.c ?_ .n))
                    · refine effOne rfl (gNone rfl (fV (ySub rfl rfl (i140)) rfl)) ?_
                      refine effStep 10 [] (by kernel_rfl) closedSt (hLeft [] (by kernel_rfl) .n) ?_
                      refine .c ?_ .n
                      refine effOne rfl (gNone rfl (fV (yAssign rfl) rfl)) ?_
                      refine effStep 11 [] (by kernel_rfl) closedSt (hLeft [] (by kernel_rfl) .n) ?_
                      refine .c ?_ .n
                      refine effOne rfl (gNone rfl (fV (yAssign rfl) rfl)) ?_
                      refine effDone closedSt (hLeft [] (by kernel_rfl) .n) (by kernel_rfl) ?_
                      exact kMeetX (()) (by simp) rfl (.c rfl (.c rfl (.c rfl .n))) (.c rfl (.c rfl (.c rfl .n))) (.h rfl (.h rfl (.h rfl (.h rfl (.h rfl (.h rfl .r))))))
                    · refine effOne rfl (gNone rfl (fV (yAssign rfl) rfl)) ?_
                      refine effStep 8 [] (by kernel_rfl) closedSt (hLeft [] (by kernel_rfl) .n) ?_
                      refine .c ?_ .n
                      refine effOne rfl (gNone rfl (fV (ySub rfl rfl (i140)) rfl)) ?_
                      refine effStep 11 [] (by kernel_rfl) closedSt (hLeft [] (by kernel_rfl) .n) ?_
                      refine .c ?_ .n
                      refine effOne rfl (gNone rfl (fV (yAssign rfl) rfl)) ?_
                      refine effDone closedSt (hLeft [] (by kernel_rfl) .n) (by kernel_rfl) ?_
                      exact kMeetX (()) (by simp) rfl (.c rfl (.c rfl (.c rfl .n))) (.c rfl (.c rfl (.c rfl .n))) (.h rfl (.h rfl (.h rfl (.h rfl (.h rfl (.h rfl .r))))))
                · refine effOne rfl (gNone rfl (eCallW 5 rfl rfl (.c rfl .n) C95 (fun w hw hb => draw4_any na nb a c l (k3 + 1 + 1) (9000) w hb ⟨hw.blkAt 1 rfl, hl.eff0 hw⟩ hO (kl (n := 2) (show k3 ≤ 108 by omega) rfl) (by decide)) trSelf)) ?_
                  refine effStep 5 [8, 9] (by kernel_rfl) closedSt (hLeft [] (by kernel_rfl) .n) ?_
                  refine (.c ?_ (.c ?_ (.c ?_ .n)))
                  · refine effOne rfl (gNone rfl (fV (ySub rfl rfl (i137)) rfl)) ?_
                    refine effStep 8 [9] (by kernel_rfl) closedSt (hLeft [] (by kernel_rfl) .n) ?_
                    refine (.c ?_ (.c ?_ .n))
                    · refine effOne rfl (gNone rfl (fV (ySub rfl rfl (i140)) rfl)) ?_
                      refine effStep 9 [] (by kernel_rfl) closedSt (hLeft [] (by kernel_rfl) .n) ?_
                      refine .c ?_ .n
                      refine effOne rfl (gNone rfl (fV (yAssign rfl) rfl)) ?_
                      refine effStep 10 [] (by kernel_rfl) closedSt (hLeft [] (by kernel_rfl) .n) ?_
                      refine .c ?_ .n
                      refine effOne rfl (gNone rfl (fV (yAssign rfl) rfl)) ?_
                      refine effStep 11 [] (by kernel_rfl) closedSt (hLeft [] (by kernel_rfl) .n) ?_
                      refine .c ?_ .n
                      refine effOne rfl (gNone rfl (fV (yAssign rfl) rfl)) ?_
                      refine effDone closedSt (hLeft [] (by kernel_rfl) .n) (by kernel_rfl) ?_
                      exact kMeetX (()) (by simp) rfl (.c rfl (.c rfl (.c rfl .n))) (.c rfl (.c rfl (.c rfl .n))) (.h rfl (.h rfl (.h rfl (.h rfl (.h rfl (.h rfl .r))))))
                    · refine effOne rfl (gNone rfl (fV (yAssign rfl) rfl)) ?_
                      refine effStep 8 [10] (by kernel_rfl) closedSt (hLeft [] (by kernel_rfl) .n) ?_
                      refine (.c ?_ (.c ?_ .n))
                      · refine effOne rfl (gNone rfl (fV (ySub rfl rfl (i140)) rfl)) ?_
                        refine effStep 10 [] (by kernel_rfl) closedSt (hLeft [] (by kernel_rfl) .n) ?_
                        refine .c ?_ .n
                        refine effOne rfl (gNone rfl (fV (yAssign rfl) rfl)) ?_
                        refine effStep 11 [] (by kernel_rfl) closedSt (hLeft [] (by kernel_rfl) .n) ?_
                        refine .c ?_ .n
                        refine effOne rfl (gNone rfl (fV (yAssign rfl) rfl)) ?_
                        refine effDone closedSt (hLeft [] (by kernel_rfl) .n) (by kernel_rfl) ?_
                        exact kMeetX (()) (by simp) rfl (.c rfl (.c rfl (.c rfl .n))) (.c rfl (.c rfl (.c rfl .n))) (.h rfl (.h rfl (.h rfl (.h rfl (.h rfl (.h rfl .r))))))
                      · refine effOne rfl (gNone rfl (fV (yAssign rfl) rfl)) ?_
                        refine effStep 8 [] (by kernel_rfl) closedSt (hLeft [] (by kernel_rfl) .n) ?_
                        refine .c ?_ .n
                        refine effOne rfl (gNone rfl (fV (ySub rfl rfl (i140)) rfl)) ?_
                        refine effStep 11 [] (by kernel_rfl) closedSt (hLeft [] (by kernel_rfl) .n) ?_
                        refine .c ?_ .n
                        refine effOne rfl (gNone rfl (fV (yAssign rfl) rfl)) ?_
                        refine effDone closedSt (hLeft [] (by kernel_rfl) .n) (by kernel_rfl) ?_
                        exact kMeetX (()) (by simp) rfl (.c rfl (.c rfl (.c rfl .n))) (.c rfl (.c rfl (.c rfl .n))) (.h rfl (.h rfl (.h rfl (.h rfl (.h rfl (.h rfl .r))))))
                  · refine effOne rfl (gNone rfl (fV (ySub rfl rfl (i140)) rfl)) ?_
                    refine effStep 5 [9] (by kernel_rfl) closedSt (hLeft [] (by kernel_rfl) .n) ?_
                    refine (.c ?_ (.c ?_ .n))
                    · refine effOne rfl (gNone rfl (fV (ySub rfl rfl (i137)) rfl)) ?_
                      refine effStep 9 [] (by kernel_rfl) closedSt (hLeft [] (by kernel_rfl) .n) ?_
                      refine .c ?_ .n
                      refine effOne rfl (gNone rfl (fV (yAssign rfl) rfl)) ?_
                      refine effStep 10 [] (by kernel_rfl) closedSt (hLeft [] (by kernel_rfl) .n) ?_
                      refine .c ?_ .n
                      refine effOne rfl (gNone rfl (fV (yAssign rfl) rfl)) ?_
                      refine effStep 11 [] (by kernel_rfl) closedSt (hLeft [] (by kernel_rfl) .n) ?_
                      refine .c ?_ .n
                      refine effOne rfl (gNone rfl (fV (yAssign rfl) rfl)) ?_
                      refine effDone closedSt (hLeft [] (by kernel_rfl) .n) (by kernel_rfl) ?_
                      exact kMeetX (()) (by simp) rfl (.c rfl (.c rfl (.c rfl .n))) (.c rfl (.c rfl (.c rfl .n))) (.h rfl (.h rfl (.h rfl (.h rfl (.h rfl (.h rfl .r))))))
                    · refine effOne rfl (gNone rfl (fV (yAssign rfl) rfl)) ?_
                      refine effStep 5 [] (by kernel_rfl) closedSt (hLeft [] (by kernel_rfl) .n) ?_
                      refine .c ?_ .n
                      refine effOne rfl (gNone rfl (fV (ySub rfl rfl (i137)) rfl)) ?_
                      refine effStep 10 [] (by kernel_rfl) closedSt (hLeft [] (by kernel_rfl) .n) ?_
                      refine .c ?_ .n
                      refine effOne rfl (gNone rfl (fV (yAssign rfl) rfl)) ?_
                      refine effStep 11 [] (by kernel_rfl) closedSt (hLeft [] (by kernel_rfl) .n) ?_
                      refine .c ?_ .n
                      refine effOne rfl (gNone rfl (fV (yAssign rfl) rfl)) ?_
                      refine effDone closedSt (hLeft [] (by kernel_rfl) .n) (by kernel_rfl) ?_
                      exact kMeetX (()) (by simp) rfl (.c rfl (.c rfl (.c rfl .n))) (.c rfl (.c rfl (.c rfl .n))) (.h rfl (.h rfl (.h rfl (.h rfl (.h rfl (.h rfl .r))))))
                  · refine effOne rfl (gNone rfl (fV (yAssign rfl) rfl)) ?_
                    refine effStep 5 [8] (by kernel_rfl) closedSt (hLeft [] (by kernel_rfl) .n) ?_
                    refine (.c ?_ (.c ?_ .n))
                    · refine effOne rfl (gNone rfl (fV (ySub rfl rfl (i137)) rfl)) ?_
                      refine effStep 8 [10] (by kernel_rfl) closedSt (hLeft [] (by kernel_rfl) .n) ?_
                      refine (.c ?_ (.c ?_ .n))
                      · refine effOne rfl (gNone rfl (fV (ySub rfl rfl (i140)) rfl)) ?_
                        refine effStep 10 [] (by kernel_rfl) closedSt (hLeft [] (by kernel_rfl) .n) ?_
                        refine .c ?_ .n
                        refine effOne rfl (gNone rfl (fV (yAssign rfl) rfl)) ?_
                        refine effStep 11 [] (by kernel_rfl) closedSt (hLeft [] (by kernel_rfl) .n) ?_
                        refine .c ?_ .n
                        refine effOne rfl (gNone rfl (fV (yAssign rfl) rfl)) ?_
                        refine effDone closedSt (hLeft [] (by kernel_rfl) .n) (by kernel_rfl) ?_
                        exact kMeetX (()) (by simp) rfl (.c rfl (.c rfl (.c rfl .n))) (.c rfl (.c rfl (.c rfl .n))) (.h rfl (.h rfl (.h rfl (.h rfl (.h rfl (.h rfl .r))))))
                      · refine effOne rfl (gNone rfl (fV (yAssign rfl) rfl)) ?_
                        refine effStep 8 [] (by kernel_rfl) closedSt (hLeft [] (by kernel_rfl) .n) ?_
                        refine .c ?_ .n
                        refine effOne rfl (gNone rfl (fV (ySub rfl rfl (i140)) rfl)) ?_
                        refine effStep 11 [] (by kernel_rfl) closedSt (hLeft [] (by kernel_rfl) .n) ?_
                        refine .c ?_ .n
                        refine effOne rfl (gNone rfl (fV (yAssign rfl) rfl)) ?_
                        refine effDone closedSt (hLeft [] (by kernel_rfl) .n) (by kernel_rfl) ?_
                        exact kMeetX (()) (by simp) rfl (.c rfl (.c rfl (.c rfl .n))) (.c rfl (.c rfl (.c rfl .n))) (.h rfl (.h rfl (.h rfl (.h rfl (.h rfl (.h rfl .r))))))
                    · refine effOne rfl (gNone rfl (fV (ySub rfl rfl (i140)) rfl)) ?_
                      refine effStep 5 [] (by kernel_rfl) closedSt (hLeft [] (by kernel_rfl) .n) ?_
                      refine .c ?_ .n
                      refine effOne rfl (gNone rfl (fV (ySub rfl rfl (i137)) rfl)) ?_
                      refine effStep 10 [] (by kernel_rfl) closedSt (hLeft [] (by kernel_rfl) .n) ?_
                      refine .c ?_ .n
                      refine effOne rfl (gNone rfl (fV (yAssign rfl) rfl)) ?_
                      refine effStep 11 [] (by kernel_rfl) closedSt (hLeft [] (by kernel_rfl) .n) ?_
                      refine .c ?_ .n
                      refine effOne rfl (gNone rfl (fV (yAssign rfl) rfl)) ?_
                      refine effDone closedSt (hLeft [] (by kernel_rfl) .n) (by kernel_rfl) ?_
                      exact kMeetX (()) (by simp) rfl (.c rfl (.c rfl (.c rfl .n))) (.c rfl (.c rfl (.c rfl .n))) (.h rfl (.h rfl (.h rfl (.h rfl (.h rfl (.h rfl .r))))))
              · refine effOne rfl (gNone rfl (eCallW 5 rfl rfl (.c rfl .n) C95 (fun w hw hb => draw4_any na nb a c l (k3 + 1) (9000) w hb ⟨hw.blkAt 1 rfl, hl.eff0 hw⟩ hO (kl (n := 1) (show k3 ≤ 108 by omega) rfl) (by decide)) trSelf)) ?_
                refine effStep 2 [5, 7] (by kernel_rfl) closedSt (hLeft [6] (by kernel_rfl) (.c (fun _ _ hs => hs.ef.sub (.h rfl .n)) .n)) ?_
                refine (.c ?_ (.c ?_ (.c ?_ .n)))
                · refine effOne rfl (gNone rfl (fV (yAdd rfl rfl (i134)) rfl)) ?_
                  refine effStep 5 [7] (by kernel_rfl) closedSt (hLeft [6] (by kernel_rfl) (.c (fun _ _ hs => hs.ef.sub (.h rfl .n)) .n)) ?_
                  refine (.c ?_ (.c ?_ .n))
                  · refine effOne rfl (gNone rfl (fV (ySub rfl rfl (i137)) rfl)) ?_
                    refine effStep 7 [] (by kernel_rfl) closedSt (hLeft [6] (by kernel_rfl) (.c (fun _ _ hs => hs.ef.sub (.h rfl .n)) .n)) ?_
                    refine .c ?_ .n
                    refine effOne rfl (gNone rfl (eCallW 5 rfl rfl (.c rfl .n) C95 (fun w hw hb => draw4_any na nb a c l (k3 + 1 + 1) (9000) w hb ⟨hw.blkAt 1 rfl, hl.eff0 hw⟩ hO (kl (n := 2) (show k3 ≤ 108 by omega) rfl) (by decide)) trSelf)) ?_
                    refine effStep 8 [9] (by kernel_rfl) closedSt (hLeft [] (by kernel_rfl) .n) ?_
                    refine (.c ?_ (.c ?_ .n))
                    · refine effOne rfl (gNone rfl (fV (ySub rfl rfl (i140)) rfl)) ?_
                      refine effStep 9 [] (by kernel_rfl) closedSt (hLeft [] (by kernel_rfl) .n) ?_
                      refine .c ?_ .n
                      refine effOne rfl (gNone rfl (fV (yAssign rfl) rfl)) ?_
                      refine effStep 10 [] (by kernel_rfl) closedSt (hLeft [] (by kernel_rfl) .n) ?_
                      refine .c ?_ .n
                      refine effOne rfl (gNone rfl (fV (yAssign rfl) rfl)) ?_
                      refine effStep 11 [] (by kernel_rfl) closedSt (hLeft [] (by kernel_rfl) .n) ?_
                      refine .c ?_ .n
                      refine effOne rfl (gNone rfl (fV (yAssign rfl) rfl)) ?_
                      refine effDone closedSt (hLeft [] (by kernel_rfl) .n) (by kernel_rfl) ?_
                      exact kMeetX (()) (by simp) rfl (.c rfl (.c rfl (.c rfl .n))) (.c rfl (.c rfl (.c rfl .n))) (.h rfl (.h rfl (.h rfl (.h rfl (.h rfl (.h rfl .r))))))
                    · refine effOne rfl (gNone rfl (fV (yAssign rfl) rfl)) ?_
                      refine effStep 8 [10] (by kernel_rfl) closedSt (hLeft [] (by kernel_rfl) .n) ?_
                      refine (.c ?_ (.c ?_ .n))
                      · refine effOne rfl (gNone rfl (fV (ySub rfl rfl (i140)) rfl)) ?_
                        refine effStep 10 [] (by kernel_rfl) closedSt (hLeft [] (by kernel_rfl) .n) ?_
                        refine .c ?_ .n
                        refine effOne rfl (gNone rfl (fV (yAssign rfl) rfl)) ?_
                        refine effStep 11 [] (by kernel_rfl) closedSt (hLeft [] (by kernel_rfl) .n) ?_
                        refine .c ?_ .n
                        refine effOne rfl (gNone rfl (fV (yAssign rfl) rfl)) ?_
                        refine effDone closedSt (hLeft [] (by kernel_rfl) .n) (by kernel_rfl) ?_
                        exact kMeetX (()) (by simp) rfl (.c rfl (.c rfl (.c rfl .n))) (.c rfl (.c rfl (.c rfl .n))) (.h rfl (.h rfl (.h rfl (.h rfl (.h rfl (.h rfl .r))))))
                      · refine effOne rfl (gNone rfl (fV (yAssign rfl) rfl)) ?_
                        refine effStep 8 [] (by kernel_rfl) closedSt (hLeft [] (by kernel_rfl) .n) ?_
                        refine .c ?_ .n
                        refine effOne rfl (gNone rfl (fV (ySub rfl rfl (i140)) rfl)) ?_
                        refine effStep 11 [] (by kernel_rfl) closedSt (hLeft [] (by kernel_rfl) .n) ?_
                        refine .c ?_ .n
                        refine effOne rfl (gNone rfl (fV (yAssign rfl) rfl)) ?_
                        refine effDone closedSt (hLeft [] (by kernel_rfl) .n) (by kernel_rfl) ?_
                        exact kMeetX (()) (by simp) rfl (.c rfl (.c rfl (.c rfl .n))) (.c rfl (.c rfl (.c rfl .n))) (.h rfl (.h rfl (.h rfl (.h rfl (.h rfl (.h rfl .r))))))
                  · refine effOne rfl (gNone rfl (eCallW 5 rfl rfl (.c rfl .n) C95 (fun w hw hb => draw4_any na nb a c l (k3 + 1 + 1) (9000) w hb ⟨hw.blkAt 1 rfl, hl.eff0 hw⟩ hO (kl (n := 2) (show k3 ≤ 108 by omega) rfl) (by decide)) trSelf)) ?_
                    refine effStep 5 [8, 9] (by kernel_rfl) closedSt (hLeft [] (by kernel_rfl) .n) ?_
                    refine (.c ?_ (.c ?_ (.c ?_ .n)))
                    · refine effOne rfl (gNone rfl (fV (ySub rfl rfl (i137)) rfl)) ?_
                      refine effStep 8 [9] (by kernel_rfl) closedSt (hLeft [] (by kernel_rfl) .n) ?_
                      refine (.c ?_ (.c ?_ .n))
                      · refine effOne rfl (gNone rfl (fV (ySub rfl rfl (i140)) rfl)) ?_
                        refine effStep 9 [] (by kernel_rfl) closedSt (hLeft [] (by kernel_rfl) .n) ?_
                        refine .c ?_ .n
                        refine effOne rfl (gNone rfl (fV (yAssign rfl) rfl)) ?_
                        refine effStep 10 [] (by kernel_rfl) closedSt (hLeft [] (by kernel_rfl) .n) ?_
                        refine .c ?_ .n
                        refine effOne rfl (gNone rfl (fV (yAssign rfl) rfl)) ?_
                        refine effStep 11 [] (by kernel_rfl) closedSt (hLeft [] (by kernel_rfl) .n) ?_
                        refine .c ?_ .n
                        refine effOne rfl (gNone rfl (fV (yAssign rfl) rfl)) ?_
                        refine effDone closedSt (hLeft [] (by kernel_rfl) .n) (by kernel_rfl) ?_
                        exact kMeetX (()) (by simp) rfl (.c rfl (.c rfl (.c rfl .n))) (.c rfl (.c rfl (.c rfl .n))) (.h rfl (.h rfl (.h rfl (.h rfl (.h rfl (.h rfl .r))))))
                      · refine effOne rfl (gNone rfl (fV (yAssign rfl) rfl)) ?_
                        refine effStep 8 [10] (by kernel_rfl) closedSt (hLeft [] (by kernel_rfl) .n) ?_
                        refine (.c ?_ (.c ?_ .n))
                        · refine effOne rfl (gNone rfl (fV (ySub rfl rfl (i140)) rfl)) ?_
                          refine effStep 10 [] (by kernel_rfl) closedSt (hLeft [] (by kernel_rfl) .n) ?_
                          refine .c ?_ .n
                          refine effOne rfl (gNone rfl (fV (yAssign rfl) rfl)) ?_
                          refine effStep 11 [] (by kernel_rfl) closedSt (hLeft [] (by kernel_rfl) .n) ?_
                          refine .c ?_ .n
                          refine effOne rfl (gNone rfl (fV (yAssign rfl) rfl)) ?_
                          refine effDone closedSt (hLeft [] (by kernel_rfl) .n) (by kernel_rfl) ?_
                          exact kMeetX (()) (by simp) rfl (.c rfl (.c rfl (.c rfl .n))) (.c rfl (.c rfl (.c rfl .n))) (.h rfl (.h rfl (.h rfl (.h rfl (.h rfl (.h rfl .r))))))
                        · refine effOne rfl (gNone rfl (fV (yAssign rfl) rfl)) ?_
                          refine effStep 8 [] (by kernel_rfl) closedSt (hLeft [] (by kernel_rfl) .n) ?_
                          refine .c ?_ .n
                          refine effOne rfl (gNone rfl (fV (ySub rfl rfl (i140)) rfl)) ?_
                          refine effStep 11 [] (by kernel_rfl) closedSt (hLeft [] (by kernel_rfl) .n) ?_
                          refine .c ?_ .n
                          refine effOne rfl (gNone rfl (fV (yAssign rfl) rfl)) ?_
                          refine effDone closedSt (hLeft [] (by kernel_rfl) .n) (by kernel_rfl) ?_
                          exact kMeetX (()) (by simp) rfl (.c rfl (.c rfl (.c rfl .n))) (.c rfl (.c rfl (.c rfl .n))) (.h rfl (.h rfl (.h rfl (.h rfl (.h rfl (.h rfl .r))))))
                    · refine effOne rfl (gNone rfl (fV (ySub rfl rfl (i140)) rfl)) ?_
                      refine effStep 5 [9] (by kernel_rfl) closedSt (hLeft [] (by kernel_rfl) .n) ?_
                      refine (.c ?_ (.c ?_ .n))
                      · refine effOne rfl (gNone rfl (fV (ySub rfl rfl (i137)) rfl)) ?_
                        refine effStep 9 [] (by kernel_rfl) closedSt (hLeft [] (by kernel_rfl) .n) ?_
                        refine .c ?_ .n
                        refine effOne rfl (gNone rfl (fV (yAssign rfl) rfl)) ?_
                        refine effStep 10 [] (by kernel_rfl) closedSt (hLeft [] (by kernel_rfl) .n) ?_
                        refine .c ?_ .n
                        refine effOne rfl (gNone rfl (fV (yAssign rfl) rfl)) ?_
                        refine effStep 11 [] (by kernel_rfl) closedSt (hLeft [] (by kernel_rfl) .n) ?_
                        refine .c ?_ .n
                        refine effOne rfl (gNone rfl (fV (yAssign rfl) rfl)) ?_
                        refine effDone closedSt (hLeft [] (by kernel_rfl) .n) (by kernel_rfl) ?_
                        exact kMeetX (()) (by simp) rfl (.c rfl (.c rfl (.c rfl .n))) (.c rfl (.c rfl (.c rfl .n))) (.h rfl (.h rfl (.h rfl (.h rfl (.h rfl (.h rfl .r))))))
                      · refine effOne rfl (gNone rfl (fV (yAssign rfl) rfl)) ?_
                        refine effStep 5 [] (by kernel_rfl) closedSt (hLeft [] (by kernel_rfl) .n) ?_
                        refine .c ?_ .n
                        refine effOne rfl (gNone rfl (fV (ySub rfl rfl (i137)) rfl)) ?_
                        refine effStep 10 [] (by kernel_rfl) closedSt (hLeft [] (by kernel_rfl) .n) ?_
                        refine .c ?_ .n
                        refine effOne rfl (gNone rfl (fV (yAssign rfl) rfl)) ?_
                        refine effStep 11 [] (by kernel_rfl) closedSt (hLeft [] (by kernel_rfl) .n) ?_
                        refine .c ?_ .n
                        refine effOne rfl (gNone rfl (fV (yAssign rfl) rfl)) ?_
                        refine effDone closedSt (hLeft [] (by kernel_rfl) .n) (by kernel_rfl) ?_
                        exact kMeetX (()) (by simp) rfl (.c rfl (.c rfl (.c rfl .n))) (.c rfl (.c rfl (.c rfl .n))) (.h rfl (.h rfl (.h rfl (.h rfl (.h rfl (.h rfl .r))))))
                    · refine effOne rfl (gNone rfl (fV (yAssign rfl) rfl)) ?_
                      refine effStep 5 [8] (by kernel_rfl) closedSt (hLeft [] (by kernel_rfl) .n) ?_
                      refine (.c ?_ (.c ?_ .n))
                      · refine effOne rfl (gNone rfl (fV (ySub rfl rfl (i137)) rfl)) ?_
                        refine effStep 8 [10] (by kernel_rfl) closedSt (hLeft [] (by kernel_rfl) .n) ?_
                        refine (.c ?_ (.c ?_ .n))
                        · refine effOne rfl (gNone rfl (fV (ySub rfl rfl (i140)) rfl)) ?_
                          refine effStep 10 [] (by kernel_rfl) closedSt (hLeft [] (by kernel_rfl) .n) ?_
                          refine .c ?_ .n
                          refine effOne rfl (gNone rfl (fV (yAssign rfl) rfl)) ?_
                          refine effStep 11 [] (by kernel_rfl) closedSt (hLeft [] (by kernel_rfl) .n) ?_
                          refine .c ?_ .n
                          refine effOne rfl (gNone rfl (fV (yAssign rfl) rfl)) ?_
                          refine effDone closedSt (hLeft [] (by kernel_rfl) .n) (by kernel_rfl) ?_
                          exact kMeetX (()) (by simp) rfl (.c rfl (.c rfl (.c rfl .n))) (.c rfl (.c rfl (.c rfl .n))) (.h rfl (.h rfl (.h rfl (.h rfl (.h rfl (.h rfl .r))))))
                        · refine effOne rfl (gNone rfl (fV (yAssign rfl) rfl)) ?_
                          refine effStep 8 [] (by kernel_rfl) closedSt (hLeft [] (by kernel_rfl) .n) ?_
                          refine .c ?_ .n
                          refine effOne rfl (gNone rfl (fV (ySub rfl rfl (i140)) rfl)) ?_
                          refine effStep 11 [] (by kernel_rfl) closedSt (hLeft [] (by kernel_rfl) .n) ?_
                          refine .c ?_ .n
                          refine effOne rfl (gNone rfl (fV (yAssign rfl) rfl)) ?_
                          refine effDone closedSt (hLeft [] (by kernel_rfl) .n) (by kernel_rfl) ?_
                          exact kMeetX (()) (by simp) rfl (.c rfl (.c rfl (.c rfl .n))) (.c rfl (.c rfl (.c rfl .n))) (.h rfl (.h rfl (.h rfl (.h rfl (.h rfl (.h rfl .r))))))
                      · refine effOne rfl (gNone rfl (fV (ySub rfl rfl (i140)) rfl)) ?_
                        refine effStep 5 [] (by kernel_rfl) closedSt (hLeft [] (by kernel_rfl) .n) ?_
                        refine .c ?_ .n
                        refine effOne rfl (gNone rfl (fV (ySub rfl rfl (i137)) rfl)) ?_
                        refine effStep 10 [] (by kernel_rfl) closedSt (hLeft [] (by kernel_rfl) .n) ?_
                        refine .c ?_ .n
                        refine effOne rfl (gNone rfl (fV (yAssign rfl) rfl)) ?_
                        refine effStep 11 [] (by kernel_rfl) closedSt (hLeft [] (by kernel_rfl) .n) ?_
                        refine .c ?_ .n
                        refine effOne rfl (gNone rfl (fV (yAssign rfl) rfl)) ?_
                        refine effDone closedSt (hLeft [] (by kernel_rfl) .n) (by kernel_rfl) ?_
                        exact kMeetX (()) (by simp) rfl (.c rfl (.c rfl (.c rfl .n))) (.c rfl (.c rfl (.c rfl .n))) (.h rfl (.h rfl (.h rfl (.h rfl (.h rfl (.h rfl .r))))))
                · refine effOne rfl (gNone rfl (fV (ySub rfl rfl (i137)) rfl)) ?_
                  refine effStep 2 [7] (by kernel_rfl) closedSt (hLeft [6] (by kernel_rfl) (.c (fun _ _ hs => hs.ef.sub (.h rfl .n)) .n)) ?_
                  refine (.c ?_ (.c ?_ .n))
                  · refine effOne rfl (gNone rfl (fV (yAdd rfl rfl (i134)) rfl)) ?_
                    refine effStep 7 [] (by kernel_rfl) closedSt (hLeft [6] (by kernel_rfl) (.c (fun _ _ hs => hs.ef.sub (.h rfl .n)) .n)) ?_
                    refine .c ?_ .n
                    refine effOne rfl (gNone rfl (eCallW 5 rfl rfl (.c rfl .n) C95 (fun w hw hb => draw4_any na nb a c l (k3 + 1 + 1) (9000) w hb ⟨hw.blkAt 1 rfl, hl.eff0 hw⟩ hO (kl (n := 2) (show k3 ≤ 108 by omega) rfl) (by decide)) trSelf)) ?_
                    refine effStep 8 [9] (by kernel_rfl) closedSt (hLeft [] (by kernel_rfl) .n) ?_
                    refine (.c ?_ (.c ?_ .n))
                    · refine effOne rfl (gNone rfl (fV (ySub rfl rfl (i140)) rfl)) ?_
                      refine effStep 9 [] (by kernel_rfl) closedSt (hLeft [] (by kernel_rfl) .n) ?_
                      refine .c ?_ .n
                      refine effOne rfl (gNone rfl (fV (yAssign rfl) rfl)) ?_
                      refine effStep 10 [] (by kernel_rfl) closedSt (hLeft [] (by kernel_rfl) .n) ?_
                      refine .c ?_ .n
                      refine effOne rfl (gNone rfl (fV (yAssign rfl) rfl)) ?_
                      refine effStep 11 [] (by kernel_rfl) closedSt (hLeft [] (by kernel_rfl) .n) ?_
                      refine .c ?_ .n
                      refine effOne rfl (gNone rfl (fV (yAssign rfl) rfl)) ?_
                      refine effDone closedSt (hLeft [] (by kernel_rfl) .n) (by kernel_rfl) ?_
                      exact kMeetX (()) (by simp) rfl (.c rfl (.c rfl (.c rfl .n))) (.c rfl (.c rfl (.c rfl .n))) (.h rfl (.h rfl (.h rfl (.h rfl (.h rfl (.h rfl .r))))))
                    · refine effOne rfl (gNone rfl (fV (yAssign rfl) rfl)) ?_
                      refine effStep 8 [10] (by kernel_rfl) closedSt (hLeft [] (by kernel_rfl) .n) ?_
                      refine (.c ?_ (.c ?_ .n))
                      · refine effOne rfl (gNone rfl (fV (ySub rfl rfl (i140)) rfl)) ?_
                        refine effStep 10 [] (by kernel_rfl) closedSt (hLeft [] (by kernel_rfl) .n) ?_
                        refine .c ?_ .n
                        refine effOne rfl (gNone rfl (fV (yAssign rfl) rfl)) ?_
                        refine effStep 11 [] (by kernel_rfl) closedSt (hLeft [] (by kernel_rfl) .n) ?_
                        refine .c ?_ .n
                        refine effOne rfl (gNone rfl (fV (yAssign rfl) rfl)) ?_
                        refine effDone closedSt (hLeft [] (by kernel_rfl) .n) (by kernel_rfl) ?_
                        exact kMeetX (()) (by simp) rfl (.c rfl (.c rfl (.c rfl .n))) (.c rfl (.c rfl (.c rfl .n))) (.h rfl (.h rfl (.h rfl (.h rfl (.h rfl (.h rfl .r))))))
                      · refine effOne rfl (gNone rfl (fV (yAssign rfl) rfl)) ?_
                        refine effStep 8 [] (by kernel_rfl) closedSt (hLeft [] (by kernel_rfl) .n) ?_
                        refine .c ?_ .n
                        refine effOne rfl (gNone rfl (fV (ySub rfl rfl (i140)) rfl)) ?_
                        refine effStep 11 [] (by kernel_rfl) closedSt (hLeft [] (by kernel_rfl) .n) ?_
                        refine .c ?_ .n
                        refine effOne rfl (gNone rfl (fV (yAssign rfl) rfl)) ?_
                        refine effDone closedSt (hLeft [] (by kernel_rfl) .n) (by kernel_rfl) ?_
                        exact kMeetX (()) (by simp) rfl (.c rfl (.c rfl (.c rfl .n))) (.c rfl (.c rfl (.c rfl .n))) (.h rfl (.h rfl (.h rfl (.h rfl (.h rfl (.h rfl .r))))))
                  · refine effOne rfl (gNone rfl (eCallW 5 rfl rfl (.c rfl .n) C95 (fun w hw hb => draw4_any na nb a c l (k3 + 1 + 1) (9000) w hb ⟨hw.blkAt 1 rfl, hl.eff0 hw⟩ hO (kl (n := 2) (show k3 ≤ 108 by omega) rfl) (by decide)) trSelf)) ?_
                    refine effStep 2 [8] (by kernel_rfl) closedSt (hLeft [] (by kernel_rfl) .n) ?_
                    refine (.c ?_ (.c ?_ .n))
                    · refine effOne rfl (gNone rfl (fV (yAdd rfl rfl (i134)) rfl)) ?_
                      refine effStep 8 [9] (by kernel_rfl) closedSt (hLeft [] (by kernel_rfl) .n) ?_
                      refine (.c ?_ (.c ?_ .n))
                      · refine effOne rfl (gNone rfl (fV (ySub rfl rfl (i140)) rfl)) ?_
                        refine effStep 9 [] (by kernel_rfl) closedSt (hLeft [] (by kernel_rfl) .n) ?_
                        refine .c ?_ .n
                        refine effOne rfl (gNone rfl (fV (yAssign rfl) rfl)) ?_
                        refine effStep 10 [] (by kernel_rfl) closedSt (hLeft [] (by kernel_rfl) .n) ?_
                        refine .c ?_ .n
                        refine effOne rfl (gNone rfl (fV (yAssign rfl) rfl)) ?_
                        refine effStep 11 [] (by kernel_rfl) closedSt (hLeft [] (by kernel_rfl) .n) ?_
                        refine .c ?_ .n
                        refine effOne rfl (gNone rfl (fV (yAssign rfl) rfl)) ?_
                        refine effDone closedSt (hLeft [] (by kernel_rfl) .n) (by kernel_rfl) ?_
                        exact kMeetX (()) (by simp) rfl (.c rfl (.c rfl (.c rfl .n))) (.c rfl (.c rfl (.c rfl .n))) (.h rfl (.h rfl (.h rfl (.h rfl (.h rfl (.h rfl .r))))))
                      · refine effOne rfl (gNone rfl (fV (yAssign rfl) rfl)) ?_
                        refine effStep 8 [10] (by kernel_rfl) closedSt (hLeft [] (by kernel_rfl) .n) ?_
                        refine (.c ?_ (.c ?_ .n))
                        · refine effOne rfl (gNone rfl (fV (ySub rfl rfl (i140)) rfl)) ?_
                          refine effStep 10 [] (by kernel_rfl) closedSt (hLeft [] (by kernel_rfl) .n) ?_
                          refine .c ?_ .n
                          refine effOne rfl (gNone rfl (fV (yAssign rfl) rfl)) ?_
                          refine effStep 11 [] (by kernel_rfl) closedSt (hLeft [] (by kernel_rfl) .n) ?_
                          refine .c ?_ .n
                          refine effOne rfl (gNone rfl (fV (yAssign rfl) rfl)) ?_
                          refine effDone closedSt (hLeft [] (by kernel_rfl) .n) (by kernel_rfl) ?_
                          exact kMeetX (()) (by simp) rfl (.c rfl (.c rfl (.c rfl .n))) (.c rfl (.c rfl (.c rfl .n))) (.h rfl (.h rfl (.h rfl (.h rfl (.h rfl (.h rfl .r))))))
                        · refine effOne rfl (gNone rfl (fV (yAssign rfl) rfl)) ?_
                          refine effStep 8 [] (by kernel_rfl) closedSt (hLeft [] (by kernel_rfl) .n) ?_
                          refine .c ?_ .n
                          refine effOne rfl (gNone rfl (fV (ySub rfl rfl (i140)) rfl)) ?_
                          refine effStep 11 [] (by kernel_rfl) closedSt (hLeft [] (by kernel_rfl) .n) ?_
                          refine .c ?_ .n
                          refine effOne rfl (gNone rfl (fV (yAssign rfl) rfl)) ?_
                          refine effDone closedSt (hLeft [] (by kernel_rfl) .n) (by kernel_rfl) ?_
                          exact kMeetX (()) (by simp) rfl (.c rfl (.c rfl (.c rfl .n))) (.c rfl (.c rfl (.c rfl .n))) (.h rfl (.h rfl (.h rfl (.h rfl (.h rfl (.h rfl .r))))))
                    · refine effOne rfl (gNone rfl (fV (ySub rfl rfl (i140)) rfl)) ?_
                      refine effStep 2 [] (by kernel_rfl) closedSt (hLeft [] (by kernel_rfl) .n) ?_
                      refine .c ?_ .n
                      refine effOne rfl (gNone rfl (fV (yAdd rfl rfl (i134)) rfl)) ?_
                      refine effStep 9 [] (by kernel_rfl) closedSt (hLeft [] (by kernel_rfl) .n) ?_
                      refine .c ?_ .n
                      refine effOne rfl (gNone rfl (fV (yAssign rfl) rfl)) ?_
                      refine effStep 10 [] (by kernel_rfl) closedSt (hLeft [] (by kernel_rfl) .n) ?_
                      refine .c ?_ .n
                      refine effOne rfl (gNone rfl (fV (yAssign rfl) rfl)) ?_
                      refine effStep 11 [] (by kernel_rfl) closedSt (hLeft [] (by kernel_rfl) .n) ?_
                      refine .c ?_ .n
                      refine effOne rfl (gNone rfl (fV (yAssign rfl) rfl)) ?_
                      refine effDone closedSt (hLeft [] (by kernel_rfl) .n) (by kernel_rfl) ?_
                      exact kMeetX (()) (by simp) rfl (.c rfl (.c rfl (.c rfl .n))) (.c rfl (.c rfl (.c rfl .n))) (.h rfl (.h rfl (.h rfl (.h rfl (.h rfl (.h rfl .r))))))
                · refine effOne rfl (gNone rfl (eCallW 5 rfl rfl (.c rfl .n) C95 (fun w hw hb => draw4_any na nb a c l (k3 + 1 + 1) (9000) w hb ⟨hw.blkAt 1 rfl, hl.eff0 hw⟩ hO (kl (n := 2) (show k3 ≤ 108 by omega) rfl) (by decide)) trSelf)) ?_
                  refine effStep 2 [5, 8] (by kernel_rfl) closedSt (hLeft [] (by kernel_rfl) .n) ?_
                  refine (.c ?_ (.c ?_ (.c ?_ .n)))
                  · refine effOne rfl (gNone rfl (fV (yAdd rfl rfl (i134)) rfl)) ?_
                    refine effStep 5 [8, 9] (by kernel_rfl) closedSt (hLeft [] (by kernel_rfl) .n) ?_
                    refine (.c ?_ (.c ?_ (.c ?_ .n)))
                    · refine effOne rfl (gNone rfl (fV (ySub rfl rfl (i137)) rfl)) ?_
                      refine effStep 8 [9] (by kernel_rfl) closedSt (hLeft [] (by kernel_rfl) .n) ?_
                      refine (.c ?_ (.c ?_ .n))
                      · refine effOne rfl (gNone rfl (fV (ySub rfl rfl (i140)) rfl)) ?_
                        refine effStep 9 [] (by kernel_rfl) closedSt (hLeft [] (by kernel_rfl) .n) ?_
                        refine .c ?_ .n
                        refine effOne rfl (gNone rfl (fV (yAssign rfl) rfl)) ?_
                        refine effStep 10 [] (by kernel_rfl) closedSt (hLeft [] (by kernel_rfl) .n) ?_
                        refine .c ?_ .n
                        refine effOne rfl (gNone rfl (fV (yAssign rfl) rfl)) ?_
                        refine effStep 11 [] (by kernel_rfl) closedSt (hLeft [] (by kernel_rfl) .n) ?_
                        refine .c ?_ .n
                        refine effOne rfl (gNone rfl (fV (yAssign rfl) rfl)) ?_
                        refine effDone closedSt (hLeft [] (by kernel_rfl) .n) (by kernel_rfl) ?_
                        exact kMeetX (()) (by simp) rfl (.c rfl (.c rfl (.c rfl .n))) (.c rfl (.c rfl (.c rfl .n))) (.h rfl (.h rfl (.h rfl (.h rfl (.h rfl (.h rfl .r))))))
                      · refine effOne rfl (gNone rfl (fV (yAssign rfl) rfl)) ?_
                        refine effStep 8 [10] (by kernel_rfl) closedSt (hLeft [] (by kernel_rfl) .n) ?_
                        refine (.c ?_ (.c ?_ .n))
                        · refine effOne rfl (gNone rfl (fV (ySub rfl rfl (i140)) rfl)) ?_
                          refine effStep 10 [] (by kernel_rfl) closedSt (hLeft [] (by kernel_rfl) .n) ?_
                          refine .c ?_ .n
                          refine effOne rfl (gNone rfl (fV (yAssign rfl) rfl)) ?_
                          refine effStep 11 [] (by kernel_rfl) closedSt (hLeft [] (by kernel_rfl) .n) ?_
                          refine .c ?_ .n
                          refine effOne rfl (gNone rfl (fV (yAssign rfl) rfl)) ?_
                          refine effDone closedSt (hLeft [] (by kernel_rfl) .n) (by kernel_rfl) ?_
                          exact kMeetX (()) (by simp) rfl (.c rfl (.c rfl (.c rfl .n))) (.c rfl (.c rfl (.c rfl .n))) (.h rfl (.h rfl (.h rfl (.h rfl (.h rfl (.h rfl .r))))))
                        · refine effOne rfl (gNone rfl (fV (yAssign rfl) rfl)) ?_
                          refine effStep 8 [] (by kernel_rfl) closedSt (hLeft [] (by kernel_rfl) .n) ?_
                          refine .c ?_ .n
                          refine effOne rfl (gNone rfl (fV (ySub rfl rfl (i140)) rfl)) ?_
                          refine effStep 11 [] (by kernel_rfl) closedSt (hLeft [] (by kernel_rfl) .n) ?_
                          refine .c ?_ .n
                          refine effOne rfl (gNone rfl (fV (yAssign rfl) rfl)) ?_
                          refine effDone closedSt (hLeft [] (by kernel_rfl) .n) (by kernel_rfl) ?_
                          exact kMeetX (()) (by simp) rfl (.c rfl (.c rfl (.c rfl .n))) (.c rfl (.c rfl (.c rfl .n))) (.h rfl (.h rfl (.h rfl (.h rfl (.h rfl (.h rfl .r))))))
                    · refine effOne rfl (gNone rfl (fV (ySub rfl rfl (i140)) rfl)) ?_
                      refine effStep 5 [9] (by kernel_rfl) closedSt (hLeft [] (by kernel_rfl) .n) ?_
                      refine (.c ?_ (.c ?_ .n))
                      · refine effOne rfl (gNone rfl (fV (ySub rfl rfl (i137)) rfl)) ?_
                        refine effStep 9 [] (by kernel_rfl) closedSt (hLeft [] (by kernel_rfl) .n) ?_
                        refine .c ?_ .n
                        refine effOne rfl (gNone rfl (fV (yAssign rfl) rfl)) ?_
                        refine effStep 10 [] (by kernel_rfl) closedSt (hLeft [] (by kernel_rfl) .n) ?_
                        refine .c ?_ .n
                        refine effOne rfl (gNone rfl (fV (yAssign rfl) rfl)) ?_
                        refine effStep 11 [] (by kernel_rfl) closedSt (hLeft [] (by kernel_rfl) .n) ?_
                        refine .c ?_ .n
                        refine effOne rfl (gNone rfl (fV (yAssign rfl) rfl)) ?_
                        refine effDone closedSt (hLeft [] (by kernel_rfl) .n) (by kernel_rfl) ?_
                        exact kMeetX (()) (by simp) rfl (.c rfl (.c rfl (.c rfl .n))) (.c rfl (.c rfl (.c rfl .n))) (.h rfl (.h rfl (.h rfl (.h rfl (.h rfl (.h rfl .r))))))
                      · refine effOne rfl (gNone rfl (fV (yAssign rfl) rfl)) ?_
                        refine effStep 5 [] (by kernel_rfl) closedSt (hLeft [] (by kernel_rfl) .n) ?_
                        refine .c ?_ .n
                        refine effOne rfl (gNone rfl (fV (ySub rfl rfl (i137)) rfl)) ?_
                        refine effStep 10 [] (by kernel_rfl) closedSt (hLeft [] (by kernel_rfl) .n) ?_
                        refine .c ?_ .n
                        refine effOne rfl (gNone rfl (fV (yAssign rfl) rfl)) ?_
                        refine effStep 11 [] (by kernel_rfl) closedSt (hLeft [] (by kernel_rfl) .n) ?_
                        refine .c ?_ .n
                        refine effOne rfl (gNone rfl (fV (yAssign rfl) rfl)) ?_
                        refine effDone closedSt (hLeft [] (by kernel_rfl) .n) (by kernel_rfl) ?_
                        exact kMeetX (()) (by simp) rfl (.c rfl (.c rfl (.c rfl .n))) (.c rfl (.c rfl (.c rfl .n))) (.h rfl (.h rfl (.h rfl (.h rfl (.h rfl (.h rfl .r))))))
                    · refine effOne rfl (gNone rfl (fV (yAssign rfl) rfl)) ?_
                      refine effStep 5 [8] (by kernel_rfl) closedSt (hLeft [] (by kernel_rfl) .n) ?_
                      refine (.c ?_ (.c ?_ .n))
                      · refine effOne rfl (gNone rfl (fV (ySub rfl rfl (i137)) rfl)) ?_
                        refine effStep 8 [10] (by kernel_rfl) closedSt (hLeft [] (by kernel_rfl) .n) ?_
                        refine (.c ?_ (.c ?_ .n))
                        · refine effOne rfl (gNone rfl (fV (ySub rfl rfl (i140)) rfl)) ?_
                          refine effStep 10 [] (by kernel_rfl) closedSt (hLeft [] (by kernel_rfl) .n) ?_
                          refine .c ?_ .n
                          refine effOne rfl (gNone rfl (fV (yAssign rfl) rfl)) ?_
                          refine effStep 11 [] (by kernel_rfl) closedSt (hLeft [] (by kernel_rfl) .n) ?_
                          refine .c ?_ .n
                          refine effOne rfl (gNone rfl (fV (yAssign rfl) rfl)) ?_
                          refine effDone closedSt (hLeft [] (by kernel_rfl) .n) (by kernel_rfl) ?_
                          exact kMeetX (()) (by simp) rfl (.c rfl (.c rfl (.c rfl .n))) (.c rfl (.c rfl (.c rfl .n))) (.h rfl (.h rfl (.h rfl (.h rfl (.h rfl (.h rfl .r))))))
                        · refine effOne rfl (gNone rfl (fV (yAssign rfl) rfl)) ?_
                          refine effStep 8 [] (by kernel_rfl) closedSt (hLeft [] (by kernel_rfl) .n) ?_
                          refine .c ?_ .n
                          refine effOne rfl (gNone rfl (fV (ySub rfl rfl (i140)) rfl)) ?_
                          refine effStep 11 [] (by kernel_rfl) closedSt (hLeft [] (by kernel_rfl) .n) ?_
                          refine .c ?_ .n
                          refine effOne rfl (gNone rfl (fV (yAssign rfl) rfl)) ?_
                          refine effDone closedSt (hLeft [] (by kernel_rfl) .n) (by kernel_rfl) ?_
                          exact kMeetX (()) (by simp) rfl (.c rfl (.c rfl (.c rfl .n))) (.c rfl (.c rfl (.c rfl .n))) (.h rfl (.h rfl (.h rfl (.h rfl (.h rfl (.h rfl .r))))))
                      · refine effOne rfl (gNone rfl (fV (ySub rfl rfl (i140)) rfl)) ?_
                        refine effStep 5 [] (by kernel_rfl) closedSt (hLeft [] (by kernel_rfl) .n) ?_
                        refine .c ?_ .n
                        refine effOne rfl (gNone rfl (fV (ySub rfl rfl (i137)) rfl)) ?_
                        refine effStep 10 [] (by kernel_rfl) closedSt (hLeft [] (by kernel_rfl) .n) ?_
                        refine .c ?_ .n
                        refine effOne rfl (gNone rfl (fV (yAssign rfl) rfl)) ?_
                        refine effStep 11 [] (by kernel_rfl) closedSt (hLeft [] (by kernel_rfl) .n) ?_
                        refine .c ?_ .n
                        refine effOne rfl (gNone rfl (fV (yAssign rfl) rfl)) ?_
                        refine effDone closedSt (hLeft [] (by kernel_rfl) .n) (by kernel_rfl) ?_
                        exact kMeetX (()) (by simp) rfl (.c rfl (.c rfl (.c rfl .n))) (.c rfl (.c rfl (.c rfl .n))) (.h rfl (.h rfl (.h rfl (.h rfl (.h rfl (.h rfl .r))))))
                  · refine effOne rfl (gNone rfl (fV (ySub rfl rfl (i137)) rfl)) ?_
                    refine effStep 2 [8] (by kernel_rfl) closedSt (hLeft [] (by kernel_rfl) .n) ?_
                    refine (.c ?_ (.c ?_ .n))
                    · refine effOne rfl (gNone rfl (fV (yAdd rfl rfl (i134)) rfl)) ?_
                      refine effStep 8 [9] (by kernel_rfl) closedSt (hLeft [] (by kernel_rfl) .n) ?_
                      refine (.c ?_ (.c ?_ .n))
                      · refine effOne rfl (gNone rfl (fV (ySub rfl rfl (i140)) rfl)) ?_
                        refine effStep 9 [] (by kernel_rfl) closedSt (hLeft [] (by kernel_rfl) .n) ?_
                        refine .c ?_ .n
                        refine effOne rfl (gNone rfl (fV (yAssign rfl) rfl)) ?_
                        refine effStep 10 [] (by kernel_rfl) closedSt (hLeft [] (by kernel_rfl) .n) ?_
                        refine .c ?_ .n
                        refine effOne rfl (gNone rfl (fV (yAssign rfl) rfl)) ?_
                        refine effStep 11 [] (by kernel_rfl) closedSt (hLeft [] (by kernel_rfl) .n) ?_
                        refine .c ?_ .n
                        refine effOne rfl (gNone rfl (fV (yAssign rfl) rfl)) ?_
                        refine effDone closedSt (hLeft [] (by kernel_rfl) .n) (by kernel_rfl) ?_
                        exact kMeetX (()) (by simp) rfl (.c rfl (.c rfl (.c rfl .n))) (.c rfl (.c rfl (.c rfl .n))) (.h rfl (.h rfl (.h rfl (.h rfl (.h rfl (.h rfl .r))))))
                      · refine effOne rfl (gNone rfl (fV (yAssign rfl) rfl)) ?_
                        refine effStep 8 [10] (by kernel_rfl) closedSt (hLeft [] (by kernel_rfl) .n) ?_
                        refine (.c ?_ (.c ?_ .n))
                        · refine effOne rfl (gNone rfl (fV (ySub rfl rfl (i140)) rfl)) ?_
                          refine effStep 10 [] (by kernel_rfl) closedSt (hLeft [] (by kernel_rfl) .n) ?_
                          refine .c ?_ .n
                          refine effOne rfl (gNone rfl (fV (yAssign rfl) rfl)) ?_
                          refine effStep 11 [] (by kernel_rfl) closedSt (hLeft [] (by kernel_rfl) .n) ?_
                          refine .c ?_ .n
                          refine effOne rfl (gNone rfl (fV (yAssign rfl) rfl)) ?_
                          refine effDone closedSt (hLeft [] (by kernel_rfl) .n) (by kernel_rfl) ?_
                          exact kMeetX (()) (by simp) rfl (.c rfl (.c rfl (.c rfl .n))) (.c rfl (.c rfl (.c rfl .n))) (.h rfl (.h rfl (.h rfl (.h rfl (.h rfl (.h rfl .r))))))
                        · refine effOne rfl (gNone rfl (fV (yAssign rfl) rfl)) ?_
                          refine effStep 8 [] (by kernel_rfl) closedSt (hLeft [] (by kernel_rfl) .n) ?_
                          refine .c ?_ .n
                          refine effOne rfl (gNone rfl (fV (ySub rfl rfl (i140)) rfl)) ?_
                          refine effStep 11 [] (by kernel_rfl) closedSt (hLeft [] (by kernel_rfl) .n) ?_
                          refine .c ?_ .n
                          refine effOne rfl (gNone rfl (fV (yAssign rfl) rfl)) ?_
                          refine effDone closedSt (hLeft [] (by kernel_rfl) .n) (by kernel_rfl) ?_
                          exact kMeetX (()) (by simp) rfl (.c rfl (.c rfl (.c rfl .n))) (.c rfl (.c rfl (.c rfl .n))) (.h rfl (.h rfl (.h rfl (.h rfl (.h rfl (.h rfl .r))))))
                    · refine effOne rfl (gNone rfl (fV (ySub rfl rfl (i140)) rfl)) ?_
                      refine effStep 2 [] (by kernel_rfl) closedSt (hLeft [] (by kernel_rfl) .n) ?_
                      refine .c ?_ .n
                      refine effOne rfl (gNone rfl (fV (yAdd rfl rfl (i134)) rfl)) ?_
                      refine effStep 9 [] (by kernel_rfl) closedSt (hLeft [] (by kernel_rfl) .n) ?_
                      refine .c ?_ .n
                      refine effOne rfl (gNone rfl (fV (yAssign rfl) rfl)) ?_
                      refine effStep 10 [] (by kernel_rfl) closedSt (hLeft [] (by kernel_rfl) .n) ?_
                      refine .c ?_ .n
                      refine effOne rfl (gNone rfl (fV (yAssign rfl) rfl)) ?_
                      refine effStep 11 [] (by kernel_rfl) closedSt (hLeft [] (by kernel_rfl) .n) ?_
                      refine .c ?_ .n
                      refine effOne rfl (gNone rfl (fV (yAssign rfl) rfl)) ?_
                      refine effDone closedSt (hLeft [] (by kernel_rfl) .n) (by kernel_rfl) ?_
                      exact kMeetX (()) (by simp) rfl (.c rfl (.c rfl (.c rfl .n))) (.c rfl (.c rfl (.c rfl .n))) (.h rfl (.h rfl (.h rfl (.h rfl (.h rfl (.h rfl .r))))))
                  · refine effOne rfl (gNone rfl (fV (ySub rfl rfl (i140)) rfl)) ?_
                    refine effStep 2 [5] (by kernel_rfl) closedSt (hLeft [] (by kernel_rfl) .n) ?_
                    refine (.c ?_ (.c ?_ .n))
                    · refine effOne rfl (gNone rfl (fV (yAdd rfl rfl (i134)) rfl)) ?_
                      refine effStep 5 [9] (by kernel_rfl) closedSt (hLeft [] (by kernel_rfl) .n) ?_
                      refine (.c ?_ (.c ?_ .n))
                      · refine effOne rfl (gNone rfl (fV (ySub rfl rfl (i137)) rfl)) ?_
                        refine effStep 9 [] (by kernel_rfl) closedSt (hLeft [] (by kernel_rfl) .n) ?_
                        refine .c ?_ .n
                        refine effOne rfl (gNone rfl (fV (yAssign rfl) rfl)) ?_
                        refine effStep 10 [] (by kernel_rfl) closedSt (hLeft [] (by kernel_rfl) .n) ?_
                        refine .c ?_ .n
                        refine effOne rfl (gNone rfl (fV (yAssign rfl) rfl)) ?_
                        refine effStep 11 [] (by kernel_rfl) closedSt (hLeft [] (by kernel_rfl) .n) ?_
                        refine .c ?_ .n
                        refine effOne rfl (gNone rfl (fV (yAssign rfl) rfl)) ?_
                        refine effDone closedSt (hLeft [] (by kernel_rfl) .n) (by kernel_rfl) ?_
                        exact kMeetX (()) (by simp) rfl (.c rfl (.c rfl (.c rfl .n))) (.c rfl (.c rfl (.c rfl .n))) (.h rfl (.h rfl (.h rfl (.h rfl (.h rfl (.h rfl .r))))))
                      · refine effOne rfl (gNone rfl (fV (yAssign rfl) rfl)) ?_
                        refine effStep 5 [] (by kernel_rfl) closedSt (hLeft [] (by kernel_rfl) .n) ?_
                        refine .c ?_ .n
                        refine effOne rfl (gNone rfl (fV (ySub rfl rfl (i137)) rfl)) ?_
                        refine effStep 10 [] (by kernel_rfl) closedSt (hLeft [] (by kernel_rfl) .n) ?_
                        refine .c ?_ .n
                        refine effOne rfl (gNone rfl (fV (yAssign rfl) rfl)) ?_
                        refine effStep 11 [] (by kernel_rfl) closedSt (hLeft [] (by kernel_rfl) .n) ?_
                        refine .c ?_ .n
                        refine effOne rfl (gNone rfl (fV (yAssign rfl) rfl)) ?_
                        refine effDone closedSt (hLeft [] (by kernel_rfl) .n) (by kernel_rfl) ?_
                        exact kMeetX (()) (by simp) rfl (.c rfl (.c rfl (.c rfl .n))) (.c rfl (.c rfl (.c rfl .n))) (.h rfl (.h rfl (.h rfl (.h rfl (.h rfl (.h rfl .r))))))
                    · refine effOne rfl (gNone rfl (fV (ySub rfl rfl (i137)) rfl)) ?_
                      refine effStep 2 [] (by kernel_rfl) closedSt (hLeft [] (by kernel_rfl) .n) ?_
                      refine .c ?_ .n
                      refine effOne rfl (gNone rfl (fV (yAdd rfl rfl (i134)) rfl)) ?_
                      refine effStep 9 [] (by kernel_rfl) closedSt (hLeft [] (by kernel_rfl) .n) ?_
                      refine .c ?_ .n
                      refine effOne rfl (gNone rfl (fV (yAssign rfl) rfl)) ?_
                      refine effStep 10 [] (by kernel_rfl) closedSt (hLeft [] (by kernel_rfl) .n) ?_
                      refine .c ?_ .n
                      refine effOne rfl (gNone rfl (fV (yAssign rfl) rfl)) ?_
                      refine effStep 11 [] (by kernel_rfl) closedSt (hLeft [] (by kernel_rfl) .n) ?_
                      refine .c ?_ .n
                      refine effOne rfl (gNone rfl (fV (yAssign rfl) rfl)) ?_
                      refine effDone closedSt (hLeft [] (by kernel_rfl) .n) (by kernel_rfl) ?_
                      exact kMeetX (()) (by simp) rfl (.c rfl (.c rfl (.c rfl .n))) (.c rfl (.c rfl (.c rfl .n))) (.h rfl (.h rfl (.h rfl (.h rfl (.h rfl (.h rfl .r))))))
            · obtain ⟨sc, esc, bsc⟩ : ∃ d, 50 + drawQ l (k3 + 1) 900 = d ∧ 50 ≤ d ∧ d ≤ 949 := ⟨_, rfl, by have := drawQ_bd l (k3 + 1) (n := 900) (by omega); omega⟩
              obtain ⟨c1, ec1, bc1⟩ : ∃ d, drawQ l (k3 + 1 + 1) 9000 - 4000 = d ∧ -4000 ≤ d ∧ d ≤ 4999 := ⟨_, rfl, by have := drawQ_bd l (k3 + 1 + 1) (n := 9000) (by omega); omega⟩
              obtain ⟨c2, ec2, bc2⟩ : ∃ d, drawQ l (k3 + 1 + 1 + 1) 9000 - 4000 = d ∧ -4000 ≤ d ∧ d ≤ 4999 := ⟨_, rfl, by have := drawQ_bd l (k3 + 1 + 1 + 1) (n := 9000) (by omega); omega⟩
              obtain ⟨k6, ek6⟩ : ∃ k, k3 + 1 + 1 + 1 = k := ⟨_, rfl⟩
              rw [esc, ec1, ec2, ek6]
              have hk7 : k6 ≤ 111 := by omega
              clear esc ec1 ec2
              refine kSeq ?_
              have b20 := drawQ_bd l (k6 + 1) (n := 20) (by omega)
              have b21 := drawQ_bd l (k6 + 1 + 1) (n := 20) (by omega)
              refine kCutX (ι := Nat) (fun z => True) (fun z => [(16, .pointer (some ⟨z, 0, none⟩))]) [(3, _), (4, _), (7, _), (13, _), (14, _), (15, _)] (fun z => []) (fun z => ([(z, blk [i64 (sc - drawQ l (k6 + 1) 20), i64 (sc + drawQ l (k6 + 1 + 1) 20), .slice none 0 0] 26), (na, blk [i64 ((k6 + 1 + 1 : Nat) : Int)] 3)] ++ osL 78 g3)) [(n3, _), (nb, _), (nE, _), (nP, _), (n4, _)] (.c rfl (.c rfl (.c rfl (.c rfl (.c rfl (.c rfl .n)))))) (.h rfl (.h rfl (.h rfl (.h rfl (.h rfl .n))))) ?_ (fun n16 _ => ?_)
              · refine kDrawE [(1, some [0]), (5, some [0])] [] [0, 1, 4, 5] 8 hMix (by kernel_rfl) ?_
                refine .run rfl (yMove rfl) rfl rfl ?_
                refine .run rfl (yLoad1 rfl O49 (cOwn 0 rfl rfl)) rfl rfl ?_
                refine .run rfl (yMove rfl) rfl rfl ?_
                refine .run rfl (yLoad1 rfl O49 (cOwn 0 rfl rfl)) rfl rfl ?_
                refine .done ?_
                refine effStep 2 [10] (by kernel_rfl) closedSt (hLeft [1, 5] (by kernel_rfl) (.c (fun _ _ hs => hs.ef.sub (.h rfl .n)) (.c (fun _ _ hs => hs.ef.sub (.h rfl .n)) .n))) ?_
                refine (.c ?_ (.c ?_ .n))
                · refine effOne rfl (gNone rfl (eCallW 5 rfl rfl (.c rfl .n) C95 (fun w hw hb => draw4_any na nb a c l (k6) (20) w hb ⟨hw.blkAt 1 rfl, hl.eff0 hw⟩ hO (kl (n := 0) hk7 rfl) (by decide)) trSelf)) ?_
                  refine effStep 3 [6, 10] (by kernel_rfl) closedSt (hLeft [5] (by kernel_rfl) (.c (fun _ _ hs => hs.ef.sub (.h rfl .n)) .n)) ?_
                  refine (.c ?_ (.c ?_ (.c ?_ .n)))
                  · refine effOne rfl (gNone rfl (fV (ySub rfl rfl (by omega)) rfl)) ?_
                    refine effStep 6 [10] (by kernel_rfl) closedSt (hLeft [5] (by kernel_rfl) (.c (fun _ _ hs => hs.ef.sub (.h rfl .n)) .n)) ?_
                    refine (.c ?_ (.c ?_ .n))
                    · refine effOne rfl (gNone rfl (eCallW 5 rfl rfl (.c rfl .n) C95 (fun w hw hb => draw4_any na nb a c l (k6 + 1) (20) w hb ⟨hw.blkAt 1 rfl, hl.eff0 hw⟩ hO (kl (n := 1) hk7 rfl) (by decide)) trSelf)) ?_
                      refine effStep 7 [10] (by kernel_rfl) closedSt (hLeft [] (by kernel_rfl) .n) ?_
                      refine (.c ?_ (.c ?_ .n))
                      · refine effOne rfl (gNone rfl (fV (yAdd rfl rfl (by omega)) rfl)) ?_
                        refine effStep 8 [10] (by kernel_rfl) closedSt (hLeft [] (by kernel_rfl) .n) ?_
                        refine (.c ?_ (.c ?_ .n))
                        · refine effOne rfl (gNone rfl (fV (yCall rfl (.c rfl (.c rfl .n)) C48 (fun w hw => span4_any _ _ w)) rfl)) ?_
                          refine effStep 9 [10] (by kernel_rfl) closedSt (hLeft [] (by kernel_rfl) .n) ?_
                          refine (.c ?_ (.c ?_ .n))
                          · refine effOne rfl (gNone rfl (fV (yBuild (.c rfl .n) (fun w => B26_0 w)) rfl)) ?_
                            refine effStep 10 [] (by kernel_rfl) closedSt (hLeft [] (by kernel_rfl) .n) ?_
                            refine .c ?_ .n
                            refine effOne rfl (gNone rfl (fAlloc Z26)) ?_
                            refine effStep 11 [] (by kernel_rfl) (closedEx fun n16 => closedSt) (hLeft [] (by kernel_rfl) .n) ?_
                            refine .c ?_ .n
                            refine effOne rfl (opEx fun n16 => (gNone rfl (fStoreL 0 rfl rfl rfl rfl K26 rfl (rfl)))) ?_
                            refine effDone (closedEx fun n16 => closedSt) (hLeft [] (by kernel_rfl) .n) (by kernel_rfl) ?_
                            refine trEx fun n16 => ?_
                            exact kMeetX (n16) (trivial) rfl (.c rfl .n) (.c rfl (.c rfl (.c rfl (.c rfl (.c rfl (.c rfl .n)))))) (.c 1 rfl (.c 1 rfl (.c 1 rfl (.c 1 rfl (.c 1 rfl (.c 0 rfl (.c 0 rfl .r)))))))
                          · refine effOne rfl (gNone rfl (fAlloc Z26)) ?_
                            refine effStep 9 [] (by kernel_rfl) (closedEx fun n16 => closedSt) (hLeft [] (by kernel_rfl) .n) ?_
                            refine .c ?_ .n
                            refine effOne rfl (opEx fun n16 => (gNone rfl (fV (yBuild (.c rfl .n) (fun w => B26_0 w)) rfl))) ?_
                            refine effStep 11 [] (by kernel_rfl) (closedEx fun n16 => closedSt) (hLeft [] (by kernel_rfl) .n) ?_
                            refine .c ?_ .n
                            refine effOne rfl (opEx fun n16 => (gNone rfl (fStoreL 0 rfl rfl rfl rfl K26 rfl (rfl)))) ?_
                            refine effDone (closedEx fun n16 => closedSt) (hLeft [] (by kernel_rfl) .n) (by kernel_rfl) ?_
                            refine trEx fun n16 => ?_
                            exact kMeetX (n16) (trivial) rfl (.c rfl .n) (.c rfl (.c rfl (.c rfl (.c rfl (.c rfl (.c rfl .n)))))) (.c 1 rfl (.c 1 rfl (.c 1 rfl (.c 1 rfl (.c 1 rfl (.c 0 rfl (.c 0 rfl .r)))))))
                        · refine effOne rfl (gNone rfl (fAlloc Z26)) ?_
                          refine effStep 8 [] (by kernel_rfl) (closedEx fun n16 => closedSt) (hLeft [] (by kernel_rfl) .n) ?_
                          refine .c ?_ .n
                          refine effOne rfl (opEx fun n16 => (gNone rfl (fV (yCall rfl (.c rfl (.c rfl .n)) C48 (fun w hw => span4_any _ _ w)) rfl))) ?_
                          refine effStep 9 [] (by kernel_rfl) (closedEx fun n16 => closedSt) (hLeft [] (by kernel_rfl) .n) ?_
                          refine .c ?_ .n
                          refine effOne rfl (opEx fun n16 => (gNone rfl (fV (yBuild (.c rfl .n) (fun w => B26_0 w)) rfl))) ?_
                          refine effStep 11 [] (by kernel_rfl) (closedEx fun n16 => closedSt) (hLeft [] (by kernel_rfl) .n) ?_
                          refine .c ?_ .n
                          refine effOne rfl (opEx fun n16 => (gNone rfl (fStoreL 0 rfl rfl rfl rfl K26 rfl (rfl)))) ?_
                          refine effDone (closedEx fun n16 => closedSt) (hLeft [] (by kernel_rfl) .n) (by kernel_rfl) ?_
                          refine trEx fun n16 => ?_
                          exact kMeetX (n16) (trivial) rfl (.c rfl .n) (.c rfl (.c rfl (.c rfl (.c rfl (.c rfl (.c rfl .n)))))) (.c 1 rfl (.c 1 rfl (.c 1 rfl (.c 1 rfl (.c 1 rfl (.c 0 rfl (.c 0 rfl .r)))))))
                      · refine effOne rfl (gNone rfl (fAlloc Z26)) ?_
                        refine effStep 7 [] (by kernel_rfl) (closedEx fun n16 => closedSt) (hLeft [] (by kernel_rfl) .n) ?_
                        refine .c ?_ .n
                        refine effOne rfl (opEx fun n16 => (gNone rfl (fV (yAdd rfl rfl (by omega)) rfl))) ?_
                        refine effStep 8 [] (by kernel_rfl) (closedEx fun n16 => closedSt) (hLeft [] (by kernel_rfl) .n) ?_
                        refine .c ?_ .n
                        refine effOne rfl (opEx fun n16 => (gNone rfl (fV (yCall rfl (.c rfl (.c rfl .n)) C48 (fun w hw => span4_any _ _ w)) rfl))) ?_
                        refine effStep 9 [] (by kernel_rfl) (closedEx fun n16 => closedSt) (hLeft [] (by kernel_rfl) .n) ?_
                        refine .c ?_ .n
                        refine effOne rfl (opEx fun n16 => (gNone rfl (fV (yBuild (.c rfl .n) (fun w => B26_0 w)) rfl))) ?_
                        refine effStep 11 [] (by kernel_rfl) (closedEx fun n16 => closedSt) (hLeft [] (by kernel_rfl) .n) ?_
                        refine .c ?_ .n
                        refine effOne rfl (opEx fun n16 => (gNone rfl (fStoreL 0 rfl rfl rfl rfl K26 rfl (rfl)))) ?_
                        refine effDone (closedEx fun n16 => closedSt) (hLeft [] (by kernel_rfl) .n) (by kernel_rfl) ?_
                        refine trEx fun n16 => ?_
                        exact kMeetX (n16) (trivial) rfl (.c rfl .n) (.c rfl (.c rfl (.c rfl (.c rfl (.c rfl (.c rfl .n)))))) (.c 1 rfl (.c 1 rfl (.c 1 rfl (.c 1 rfl (.c 1 rfl (.c 0 rfl (.c 0 rfl .r)))))))
                    · refine effOne rfl (gNone rfl (fAlloc Z26)) ?_
                      refine effStep 6 [] (by kernel_rfl) (closedEx fun n16 => closedSt) (hLeft [5] (by kernel_rfl) (.c (fun _ _ ⟨n16, hs⟩ => hs.ef.sub (.k rfl (.h rfl .n))) .n)) ?_
                      refine .c ?_ .n
                      refine effOne rfl (opEx fun n16 => (gNone rfl (eCallW 6 rfl rfl (.c rfl .n) C95 (fun w hw hb => draw4_any na nb a c l (k6 + 1) (20) w hb ⟨hw.blkAt 2 rfl, hl.eff0 hw⟩ hO (kl (n := 1) hk7 rfl) (by decide)) trSelf))) ?_
                      refine effStep 7 [] (by kernel_rfl) (closedEx fun n16 => closedSt) (hLeft [] (by kernel_rfl) .n) ?_
                      refine .c ?_ .n
                      refine effOne rfl (opEx fun n16 => (gNone rfl (fV (yAdd rfl rfl (by omega)) rfl))) ?_
                      refine effStep 8 [] (by kernel_rfl) (closedEx fun n16 => closedSt) (hLeft [] (by kernel_rfl) .n) ?_
                      refine .c ?_ .n
                      refine effOne rfl (opEx fun n16 => (gNone rfl (fV (yCall rfl (.c rfl (.c rfl .n)) C48 (fun w hw => span4_any _ _ w)) rfl))) ?_
                      refine effStep 9 [] (by kernel_rfl) (closedEx fun n16 => closedSt) (hLeft [] (by kernel_rfl) .n) ?_
                      refine .c ?_ .n
                      refine effOne rfl (opEx fun n16 => (gNone rfl (fV (yBuild (.c rfl .n) (fun w => B26_0 w)) rfl))) ?_
                      refine effStep 11 [] (by kernel_rfl) (closedEx fun n16 => closedSt) (hLeft [] (by kernel_rfl) .n) ?_
                      refine .c ?_ .n
                      refine effOne rfl (opEx fun n16 => (gNone rfl (fStoreL 0 rfl rfl rfl rfl K26 rfl (rfl)))) ?_
                      refine effDone (closedEx fun n16 => closedSt) (hLeft [] (by kernel_rfl) .n) (by kernel_rfl) ?_
                      refine trEx fun n16 => ?_
                      exact kMeetX (n16) (trivial) rfl (.c rfl .n) (.c rfl (.c rfl (.c rfl (.c rfl (.c rfl (.c rfl .n)))))) (.c 1 rfl (.c 1 rfl (.c 1 rfl (.c 1 rfl (.c 1 rfl (.c 0 rfl (.c 0 rfl .r)))))))
                  · refine effOne rfl (gNone rfl (eCallW 5 rfl rfl (.c rfl .n) C95 (fun w hw hb => draw4_any na nb a c l (k6 + 1) (20) w hb ⟨hw.blkAt 1 rfl, hl.eff0 hw⟩ hO (kl (n := 1) hk7 rfl) (by decide)) trSelf)) ?_
                    refine effStep 3 [7, 10] (by kernel_rfl) closedSt (hLeft [] (by kernel_rfl) .n) ?_
                    refine (.c ?_ (.c ?_ (.c ?_ .n)))
                    · refine effOne rfl (gNone rfl (fV (ySub rfl rfl (by omega)) rfl)) ?_
                      refine effStep 7 [10] (by kernel_rfl) closedSt (hLeft [] (by kernel_rfl) .n) ?_
                      refine (.c ?_ (.c ?_ .n))
                      · refine effOne rfl (gNone rfl (fV (yAdd rfl rfl (by omega)) rfl)) ?_
                        refine effStep 8 [10] (by kernel_rfl) closedSt (hLeft [] (by kernel_rfl) .n) ?_
                        refine (.c ?_ (.c ?_ .n))
                        · refine effOne rfl (gNone rfl (fV (yCall rfl (.c rfl (.c rfl .n)) C48 (fun w hw => span4_any _ _ w)) rfl)) ?_
                          refine effStep 9 [10] (by kernel_rfl) closedSt (hLeft [] (by kernel_rfl) .n) ?_
                          refine (.c ?_ (.c ?_ .n))
                          · refine effOne rfl (gNone rfl (fV (yBuild (.c rfl .n) (fun w => B26_0 w)) rfl)) ?_
                            refine effStep 10 [] (by kernel_rfl) closedSt (hLeft [] (by kernel_rfl) .n) ?_
                            refine .c ?_ .n
                            refine effOne rfl (gNone rfl (fAlloc Z26)) ?_
                            refine effStep 11 [] (by kernel_rfl) (closedEx fun n16 => closedSt) (hLeft [] (by kernel_rfl) .n) ?_
                            refine .c ?_ .n
                            refine effOne rfl (opEx fun n16 => (gNone rfl (fStoreL 0 rfl rfl rfl rfl K26 rfl (rfl)))) ?_
                            refine effDone (closedEx fun n16 => closedSt) (hLeft [] (by kernel_rfl) .n) (by kernel_rfl) ?_
                            refine trEx fun n16 => ?_
                            exact kMeetX (n16) (trivial) rfl (.c rfl .n) (.c rfl (.c rfl (.c rfl (.c rfl (.c rfl (.c rfl .n)))))) (.c 1 rfl (.c 1 rfl (.c 1 rfl (.c 1 rfl (.c 1 rfl (.c 0 rfl (.c 0 rfl .r)))))))
                          · refine effOne rfl (gNone rfl (fAlloc Z26)) ?_
                            refine effStep 9 [] (by kernel_rfl) (closedEx fun n16 => closedSt) (hLeft [] (by kernel_rfl) .n) ?_
                            refine .c ?_ .n
                            refine effOne rfl (opEx fun n16 => (gNone rfl (fV (yBuild (.c rfl .n) (fun w => B26_0 w)) rfl))) ?_
                            refine effStep 11 [] (by kernel_rfl) (closedEx fun n16 => closedSt) (hLeft [] (by kernel_rfl) .n) ?_
                            refine .c ?_ .n
                            refine effOne rfl (opEx fun n16 => (gNone rfl (fStoreL 0 rfl rfl rfl rfl K26 rfl (rfl)))) ?_
                            refine effDone (closedEx fun n16 => closedSt) (hLeft [] (by kernel_rfl) .n) (by kernel_rfl) ?_
                            refine trEx fun n16 => ?_
                            exact kMeetX (n16) (trivial) rfl (.c rfl .n) (.c rfl (.c rfl (.c rfl (.c rfl (.c rfl (.c rfl .n)))))) (.c 1 rfl (.c 1 rfl (.c 1 rfl (.c 1 rfl (.c 1 rfl (.c 0 rfl (.c 0 rfl .r)))))))
                        · refine effOne rfl (gNone rfl (fAlloc Z26)) ?_
                          refine effStep 8 [] (by kernel_rfl) (closedEx fun n16 => closedSt) (hLeft [] (by kernel_rfl) .n) ?_
                          refine .c ?_ .n
                          refine effOne rfl (opEx fun n16 => (gNone rfl (fV (yCall rfl (.c rfl (.c rfl .n)) C48 (fun w hw => span4_any _ _ w)) rfl))) ?_
                          refine effStep 9 [] (by kernel_rfl) (closedEx fun n16 => closedSt) (hLeft [] (by kernel_rfl) .n) ?_
                          refine .c ?_ .n
                          refine effOne rfl (opEx fun n16 => (gNone rfl (fV (yBuild (.c rfl .n) (fun w => B26_0 w)) rfl))) ?_
                          refine effStep 11 [] (by kernel_rfl) (closedEx fun n16 => closedSt) (hLeft [] (by kernel_rfl) .n) ?_
                          refine .c ?_ .n
                          refine effOne rfl (opEx fun n16 => (gNone rfl (fStoreL 0 rfl rfl rfl rfl K26 rfl (rfl)))) ?_
                          refine effDone (closedEx fun n16 => closedSt) (hLeft [] (by kernel_rfl) .n) (by kernel_rfl) ?_
                          refine trEx fun n16 => ?_
                          exact kMeetX (n16) (trivial) rfl (.c rfl .n) (.c rfl (.c rfl (.c rfl (.c rfl (.c rfl (.c rfl .n)))))) (.c 1 rfl (.c 1 rfl (.c 1 rfl (.c 1 rfl (.c 1 rfl (.c 0 rfl (.c 0 rfl .r)))))))
                      · refine effOne rfl (gNone rfl (fAlloc Z26)) ?_
                        refine effStep 7 [] (by kernel_rfl) (closedEx fun n16 => closedSt) (hLeft [] (by kernel_rfl) .n) ?_
                        refine .c ?_ .n
                        refine effOne rfl (opEx fun n16 => (gNone rfl (fV (yAdd rfl rfl (by omega)) rfl))) ?_
                        refine effStep 8 [] (by kernel_rfl) (closedEx fun n16 => closedSt) (hLeft [] (by kernel_rfl) .n) ?_
                        refine .c ?_ .n
                        refine effOne rfl (opEx fun n16 => (gNone rfl (fV (yCall rfl (.c rfl (.c rfl .n)) C48 (fun w hw => span4_any _ _ w)) rfl))) ?_
                        refine effStep 9 [] (by kernel_rfl) (closedEx fun n16 => closedSt) (hLeft [] (by kernel_rfl) .n) ?_
                        refine .c ?_ .n
                        refine effOne rfl (opEx fun n16 => (gNone rfl (fV (yBuild (.c rfl .n) (fun w => B26_0 w)) rfl))) ?_
                        refine effStep 11 [] (by kernel_rfl) (closedEx fun n16 => closedSt) (hLeft [] (by kernel_rfl) .n) ?_
                        refine .c ?_ .n
                        refine effOne rfl (opEx fun n16 => (gNone rfl (fStoreL 0 rfl rfl rfl rfl K26 rfl (rfl)))) ?_
                        refine effDone (closedEx fun n16 => closedSt) (hLeft [] (by kernel_rfl) .n) (by kernel_rfl) ?_
                        refine trEx fun n16 => ?_
                        exact kMeetX (n16) (trivial) rfl (.c rfl .n) (.c rfl (.c rfl (.c rfl (.c rfl (.c rfl (.c rfl .n)))))) (.c 1 rfl (.c 1 rfl (.c 1 rfl (.c 1 rfl (.c 1 rfl (.c 0 rfl (.c 0 rfl .r)))))))
                    · refine effOne rfl (gNone rfl (fV (yAdd rfl rfl (by omega)) rfl)) ?_
                      refine effStep 3 [10] (by kernel_rfl) closedSt (hLeft [] (by kernel_rfl) .n) ?_
                      refine (.c ?_ (.c ?_ .n))
                      · refine effOne rfl (gNone rfl (fV (ySub rfl rfl (by omega)) rfl)) ?_
                        refine effStep 8 [10] (by kernel_rfl) closedSt (hLeft [] (by kernel_rfl) .n) ?_
                        refine (.c ?_ (.c ?_ .n))
                        · refine effOne rfl (gNone rfl (fV (yCall rfl (.c rfl (.c rfl .n)) C48 (fun w hw => span4_any _ _ w)) rfl)) ?_
                          refine effStep 9 [10] (by kernel_rfl) closedSt (hLeft [] (by kernel_rfl) .n) ?_
                          refine (.c ?_ (.c ?_ .n))
                          · refine effOne rfl (gNone rfl (fV (yBuild (.c rfl .n) (fun w => B26_0 w)) rfl)) ?_
                            refine effStep 10 [] (by kernel_rfl) closedSt (hLeft [] (by kernel_rfl) .n) ?_
                            refine .c ?_ .n
                            refine effOne rfl (gNone rfl (fAlloc Z26)) ?_
                            refine effStep 11 [] (by kernel_rfl) (closedEx fun n16 => closedSt) (hLeft [] (by kernel_rfl) .n) ?_
                            refine .c ?_ .n
                            refine effOne rfl (opEx fun n16 => (gNone rfl (fStoreL 0 rfl rfl rfl rfl K26 rfl (rfl)))) ?_
                            refine effDone (closedEx fun n16 => closedSt) (hLeft [] (by kernel_rfl) .n) (by kernel_rfl) ?_
                            refine trEx fun n16 => ?_
                            exact kMeetX (n16) (trivial) rfl (.c rfl .n) (.c rfl (.c rfl (.c rfl (.c rfl (.c rfl (.c rfl .n)))))) (.c 1 rfl (.c 1 rfl (.c 1 rfl (.c 1 rfl (.c 1 rfl (.c 0 rfl (.c 0 rfl .r)))))))
                          · refine effOne rfl (gNone rfl (fAlloc Z26)) ?_
                            refine effStep 9 [] (by kernel_rfl) (closedEx fun n16 => closedSt) (hLeft [] (by kernel_rfl) .n) ?_
                            refine .c ?_ .n
                            refine effOne rfl (opEx fun n16 => (gNone rfl (fV (yBuild (.c rfl .n) (fun w => B26_0 w)) rfl))) ?_
                            refine effStep 11 [] (by kernel_rfl) (closedEx fun n16 => closedSt) (hLeft [] (by kernel_rfl) .n) ?_
                            refine .c ?_ .n
                            refine effOne rfl (opEx fun n16 => (gNone rfl (fStoreL 0 rfl rfl rfl rfl K26 rfl (rfl)))) ?_
                            refine effDone (closedEx fun n16 => closedSt) (hLeft [] (by kernel_rfl) .n) (by kernel_rfl) ?_
                            refine trEx fun n16 => ?_
                            exact kMeetX (n16) (trivial) rfl (.c rfl .n) (.c rfl (.c rfl (.c rfl (.c rfl (.c rfl (.c rfl .n)))))) (.c 1 rfl (.c 1 rfl (.c 1 rfl (.c 1 rfl (.c 1 rfl (.c 0 rfl (.c 0 rfl .r)))))))
                        · refine effOne rfl (gNone rfl (fAlloc Z26)) ?_
                          refine effStep 8 [] (by kernel_rfl) (closedEx fun n16 => closedSt) (hLeft [] (by kernel_rfl) .n) ?_
                          refine .c ?_ .n
                          refine effOne rfl (opEx fun n16 => (gNone rfl (fV (yCall rfl (.c rfl (.c rfl .n)) C48 (fun w hw => span4_any _ _ w)) rfl))) ?_
                          refine effStep 9 [] (by kernel_rfl) (closedEx fun n16 => closedSt) (hLeft [] (by kernel_rfl) .n) ?_
                          refine .c ?_ .n
                          refine effOne rfl (opEx fun n16 => (gNone rfl (fV (yBuild (.c rfl .n) (fun w => B26_0 w)) rfl))) ?_
                          refine effStep 11 [] (by kernel_rfl) (closedEx fun n16 => closedSt) (hLeft [] (by kernel_rfl) .n) ?_
                          refine .c ?_ .n
                          refine effOne rfl (opEx fun n16 => (gNone rfl (fStoreL 0 rfl rfl rfl rfl K26 rfl (rfl)))) ?_
                          refine effDone (closedEx fun n16 => closedSt) (hLeft [] (by kernel_rfl) .n) (by kernel_rfl) ?_
                          refine trEx fun n16 => ?_
                          exact kMeetX (n16) (trivial) rfl (.c rfl .n) (.c rfl (.c rfl (.c rfl (.c rfl (.c rfl (.c rfl .n)))))) (.c 1 rfl (.c 1 rfl (.c 1 rfl (.c 1 rfl (.c 1 rfl (.c 0 rfl (.c 0 rfl .r)))))))
                      · refine effOne rfl (gNone rfl (fAlloc Z26)) ?_
                        refine effStep 3 [] (by kernel_rfl) (closedEx fun n16 => closedSt) (hLeft [] (by kernel_rfl) .n) ?_
                        refine .c ?_ .n
                        refine effOne rfl (opEx fun n16 => (gNone rfl (fV (ySub rfl rfl (by omega)) rfl))) ?_
                        refine effStep 8 [] (by kernel_rfl) (closedEx fun n16 => closedSt) (hLeft [] (by kernel_rfl) .n) ?_
                        refine .c ?_ .n
                        refine effOne rfl (opEx fun n16 => (gNone rfl (fV (yCall rfl (.c rfl (.c rfl .n)) C48 (fun w hw => span4_any _ _ w)) rfl))) ?_
                        refine effStep 9 [] (by kernel_rfl) (closedEx fun n16 => closedSt) (hLeft [] (by kernel_rfl) .n) ?_
                        refine .c ?_ .n
                        refine effOne rfl (opEx fun n16 => (gNone rfl (fV (yBuild (.c rfl .n) (fun w => B26_0 w)) rfl))) ?_
                        refine effStep 11 [] (by kernel_rfl) (closedEx fun n16 => closedSt) (hLeft [] (by kernel_rfl) .n) ?_
                        refine .c ?_ .n
                        refine effOne rfl (opEx fun n16 => (gNone rfl (fStoreL 0 rfl rfl rfl rfl K26 rfl (rfl)))) ?_
                        refine effDone (closedEx fun n16 => closedSt) (hLeft [] (by kernel_rfl) .n) (by kernel_rfl) ?_
                        refine trEx fun n16 => ?_
                        exact kMeetX (n16) (trivial) rfl (.c rfl .n) (.c rfl (.c rfl (.c rfl (.c rfl (.c rfl (.c rfl .n)))))) (.c 1 rfl (.c 1 rfl (.c 1 rfl (.c 1 rfl (.c 1 rfl (.c 0 rfl (.c 0 rfl .r)))))))
                    · refine effOne rfl (gNone rfl (fAlloc Z26)) ?_
                      refine effStep 3 [7] (by kernel_rfl) (closedEx fun n16 => closedSt) (hLeft [] (by kernel_rfl) .n) ?_
                      refine (.c ?_ (.c ?_ .n))
                      · refine effOne rfl (opEx fun n16 => (gNone rfl (fV (ySub rfl rfl (by omega)) rfl))) ?_
                        refine effStep 7 [] (by kernel_rfl) (closedEx fun n16 => closedSt) (hLeft [] (by kernel_rfl) .n) ?_
                        refine .c ?_ .n
                        refine effOne rfl (opEx fun n16 => (gNone rfl (fV (yAdd rfl rfl (by omega)) rfl))) ?_
                        refine effStep 8 [] (by kernel_rfl) (closedEx fun n16 => closedSt) (hLeft [] (by kernel_rfl) .n) ?_
                        refine .c ?_ .n
                        refine effOne rfl (opEx fun n16 => (gNone rfl (fV (yCall rfl (.c rfl (.c rfl .n)) C48 (fun w hw => span4_any _ _ w)) rfl))) ?_
                        refine effStep 9 [] (by kernel_rfl) (closedEx fun n16 => closedSt) (hLeft [] (by kernel_rfl) .n) ?_
                        refine .c ?_ .n
                        refine effOne rfl (opEx fun n16 => (gNone rfl (fV (yBuild (.c rfl .n) (fun w => B26_0 w)) rfl))) ?_
                        refine effStep 11 [] (by kernel_rfl) (closedEx fun n16 => closedSt) (hLeft [] (by kernel_rfl) .n) ?_
                        refine .c ?_ .n
                        refine effOne rfl (opEx fun n16 => (gNone rfl (fStoreL 0 rfl rfl rfl rfl K26 rfl (rfl)))) ?_
                        refine effDone (closedEx fun n16 => closedSt) (hLeft [] (by kernel_rfl) .n) (by kernel_rfl) ?_
                        refine trEx fun n16 => ?_
                        exact kMeetX (n16) (trivial) rfl (.c rfl .n) (.c rfl (.c rfl (.c rfl (.c rfl (.c rfl (.c rfl .n)))))) (.c 1 rfl (.c 1 rfl (.c 1 rfl (.c 1 rfl (.c 1 rfl (.c 0 rfl (.c 0 rfl .r)))))))
                      · refine effOne rfl (opEx fun n16 => (gNone rfl (fV (yAdd rfl rfl (by omega)) rfl))) ?_
                        refine effStep 3 [] (by kernel_rfl) (closedEx fun n16 => closedSt) (hLeft [] (by kernel_rfl) .n) ?_
                        refine .c ?_ .n
                        refine effOne rfl (opEx fun n16 => (gNone rfl (fV (ySub rfl rfl (by omega)) rfl))) ?_
                        refine effStep 8 [] (by kernel_rfl) (closedEx fun n16 => closedSt) (hLeft [] (by kernel_rfl) .n) ?_
                        refine .c ?_ .n
                        refine effOne rfl (opEx fun n16 => (gNone rfl (fV (yCall rfl (.c rfl (.c rfl .n)) C48 (fun w hw => span4_any _ _ w)) rfl))) ?_
                        refine effStep 9 [] (by kernel_rfl) (closedEx fun n16 => closedSt) (hLeft [] (by kernel_rfl) .n) ?_
                        refine .c ?_ .n
                        refine effOne rfl (opEx fun n16 => (gNone rfl (fV (yBuild (.c rfl .n) (fun w => B26_0 w)) rfl))) ?_
                        refine effStep 11 [] (by kernel_rfl) (closedEx fun n16 => closedSt) (hLeft [] (by kernel_rfl) .n) ?_
                        refine .c ?_ .n
                        refine effOne rfl (opEx fun n16 => (gNone rfl (fStoreL 0 rfl rfl rfl rfl K26 rfl (rfl)))) ?_
                        refine effDone (closedEx fun n16 => closedSt) (hLeft [] (by kernel_rfl) .n) (by kernel_rfl) ?_
                        refine trEx fun n16 => ?_
                        exact kMeetX (n16) (trivial) rfl (.c rfl .n) (.c rfl (.c rfl (.c rfl (.c rfl (.c rfl (.c rfl .n)))))) (.c 1 rfl (.c 1 rfl (.c 1 rfl (.c 1 rfl (.c 1 rfl (.c 0 rfl (.c 0 rfl .r)))))))
                  · refine effOne rfl (gNone rfl (fAlloc Z26)) ?_
                    refine effStep 3 [6] (by kernel_rfl) (closedEx fun n16 => closedSt) (hLeft [5] (by kernel_rfl) (.c (fun _ _ ⟨n16, hs⟩ => hs.ef.sub (.k rfl (.h rfl .n))) .n)) ?_
                    refine (.c ?_ (.c ?_ .n))
                    · refine effOne rfl (opEx fun n16 => (gNone rfl (fV (ySub rfl rfl (by omega)) rfl))) ?_
                      refine effStep 6 [] (by kernel_rfl) (closedEx fun n16 => closedSt) (hLeft [5] (by kernel_rfl) (.c (fun _ _ ⟨n16, hs⟩ => hs.ef.sub (.k rfl (.h rfl .n))) .n)) ?_
                      refine .c ?_ .n
                      refine effOne rfl (opEx fun n16 => (gNone rfl (eCallW 6 rfl rfl (.c rfl .n) C95 (fun w hw hb => draw4_any na nb a c l (k6 + 1) (20) w hb ⟨hw.blkAt 2 rfl, hl.eff0 hw⟩ hO (kl (n := 1) hk7 rfl) (by decide)) trSelf))) ?_
                      refine effStep 7 [] (by kernel_rfl) (closedEx fun n16 => closedSt) (hLeft [] (by kernel_rfl) .n) ?_
                      refine .c ?_ .n
                      refine effOne rfl (opEx fun n16 => (gNone rfl (fV (yAdd rfl rfl (by omega)) rfl))) ?_
                      refine effStep 8 [] (by kernel_rfl) (closedEx fun n16 => closedSt) (hLeft [] (by kernel_rfl) .n) ?_
                      refine .c ?_ .n
                      refine effOne rfl (opEx fun n16 => (gNone rfl (fV (yCall rfl (.c rfl (.c rfl .n)) C48 (fun w hw => span4_any _ _ w)) rfl))) ?_
                      refine effStep 9 [] (by kernel_rfl) (closedEx fun n16 => closedSt) (hLeft [] (by kernel_rfl) .n) ?_
                      refine .c ?_ .n
                      refine effOne rfl (opEx fun n16 => (gNone rfl (fV (yBuild (.c rfl .n) (fun w => B26_0 w)) rfl))) ?_
                      refine effStep 11 [] (by kernel_rfl) (closedEx fun n16 => closedSt) (hLeft [] (by kernel_rfl) .n) ?_
                      refine .c ?_ .n
                      refine effOne rfl (opEx fun n16 => (gNone rfl (fStoreL 0 rfl rfl rfl rfl K26 rfl (rfl)))) ?_
                      refine effDone (closedEx fun n16 => closedSt) (hLeft [] (by kernel_rfl) .n) (by kernel_rfl) ?_
                      refine trEx fun n16 => ?_
                      exact kMeetX (n16) (trivial) rfl (.c rfl .n) (.c rfl (.c rfl (.c rfl (.c rfl (.c rfl (.c rfl .n)))))) (.c 1 rfl (.c 1 rfl (.c 1 rfl (.c 1 rfl (.c 1 rfl (.c 0 rfl (.c 0 rfl .r)))))))
                    · refine effOne rfl (opEx fun n16 => (gNone rfl (eCallW 6 rfl rfl (.c rfl .n) C95 (fun w hw hb => draw4_any na nb a c l (k6 + 1) (20) w hb ⟨hw.blkAt 2 rfl, hl.eff0 hw⟩ hO (kl (n := 1) hk7 rfl) (by decide)) trSelf))) ?_
                      refine effStep 3 [7] (by kernel_rfl) (closedEx fun n16 => closedSt) (hLeft [] (by kernel_rfl) .n) ?_
                      refine (.c ?_ (.c ?_ .n))
                      · refine effOne rfl (opEx fun n16 => (gNone rfl (fV (ySub rfl rfl (by omega)) rfl))) ?_
                        refine effStep 7 [] (by kernel_rfl) (closedEx fun n16 => closedSt) (hLeft [] (by kernel_rfl) .n) ?_
                        refine .c ?_ .n
                        refine effOne rfl (opEx fun n16 => (gNone rfl (fV (yAdd rfl rfl (by omega)) rfl))) ?_
                        refine effStep 8 [] (by kernel_rfl) (closedEx fun n16 => closedSt) (hLeft [] (by kernel_rfl) .n) ?_
                        refine .c ?_ .n
                        refine effOne rfl (opEx fun n16 => (gNone rfl (fV (yCall rfl (.c rfl (.c rfl .n)) C48 (fun w hw => span4_any _ _ w)) rfl))) ?_
                        refine effStep 9 [] (by kernel_rfl) (closedEx fun n16 => closedSt) (hLeft [] (by kernel_rfl) .n) ?_
                        refine .c ?_ .n
                        refine effOne rfl (opEx fun n16 => (gNone rfl (fV (yBuild (.c rfl .n) (fun w => B26_0 w)) rfl))) ?_
                        refine effStep 11 [] (by kernel_rfl) (closedEx fun n16 => closedSt) (hLeft [] (by kernel_rfl) .n) ?_
                        refine .c ?_ .n
                        refine effOne rfl (opEx fun n16 => (gNone rfl (fStoreL 0 rfl rfl rfl rfl K26 rfl (rfl)))) ?_
                        refine effDone (closedEx fun n16 => closedSt) (hLeft [] (by kernel_rfl) .n) (by kernel_rfl) ?_
                        refine trEx fun n16 => ?_
                        exact kMeetX (n16) (trivial) rfl (.c rfl .n) (.c rfl (.c rfl (.c rfl (.c rfl (.c rfl (.c rfl .n)))))) (.c 1 rfl (.c 1 rfl (.c 1 rfl (.c 1 rfl (.c 1 rfl (.c 0 rfl (.c 0 rfl .r)))))))
                      · refine effOne rfl (opEx fun n16 => (gNone rfl (fV (yAdd rfl rfl (by omega)) rfl))) ?_
                        refine effStep 3 [] (by kernel_rfl) (closedEx fun n16 => closedSt) (hLeft [] (by kernel_rfl) .n) ?_
                        refine .c ?_ .n
                        refine effOne rfl (opEx fun n16 => (gNone rfl (fV (ySub rfl rfl (by omega)) rfl))) ?_
                        refine effStep 8 [] (by kernel_rfl) (closedEx fun n16 => closedSt) (hLeft [] (by kernel_rfl) .n) ?_
                        refine .c ?_ .n
                        refine effOne rfl (opEx fun n16 => (gNone rfl (fV (yCall rfl (.c rfl (.c rfl .n)) C48 (fun w hw => span4_any _ _ w)) rfl))) ?_
                        refine effStep 9 [] (by kernel_rfl) (closedEx fun n16 => closedSt) (hLeft [] (by kernel_rfl) .n) ?_
                        refine .c ?_ .n
                        refine effOne rfl (opEx fun n16 => (gNone rfl (fV (yBuild (.c rfl .n) (fun w => B26_0 w)) rfl))) ?_
                        refine effStep 11 [] (by kernel_rfl) (closedEx fun n16 => closedSt) (hLeft [] (by kernel_rfl) .n) ?_
                        refine .c ?_ .n
                        refine effOne rfl (opEx fun n16 => (gNone rfl (fStoreL 0 rfl rfl rfl rfl K26 rfl (rfl)))) ?_
                        refine effDone (closedEx fun n16 => closedSt) (hLeft [] (by kernel_rfl) .n) (by kernel_rfl) ?_
                        refine trEx fun n16 => ?_
                        exact kMeetX (n16) (trivial) rfl (.c rfl .n) (.c rfl (.c rfl (.c rfl (.c rfl (.c rfl (.c rfl .n)))))) (.c 1 rfl (.c 1 rfl (.c 1 rfl (.c 1 rfl (.c 1 rfl (.c 0 rfl (.c 0 rfl .r)))))))
                · refine effOne rfl (gNone rfl (fAlloc Z26)) ?_
                  refine effStep 2 [] (by kernel_rfl) (closedEx fun n16 => closedSt) (hLeft [1, 5] (by kernel_rfl) (.c (fun _ _ ⟨n16, hs⟩ => hs.ef.sub (.k rfl (.h rfl .n))) (.c (fun _ _ ⟨n16, hs⟩ => hs.ef.sub (.k rfl (.h rfl .n))) .n))) ?_
                  refine .c ?_ .n
                  refine effOne rfl (opEx fun n16 => (gNone rfl (eCallW 6 rfl rfl (.c rfl .n) C95 (fun w hw hb => draw4_any na nb a c l (k6) (20) w hb ⟨hw.blkAt 2 rfl, hl.eff0 hw⟩ hO (kl (n := 0) hk7 rfl) (by decide)) trSelf))) ?_
                  refine effStep 3 [6] (by kernel_rfl) (closedEx fun n16 => closedSt) (hLeft [5] (by kernel_rfl) (.c (fun _ _ ⟨n16, hs⟩ => hs.ef.sub (.k rfl (.h rfl .n))) .n)) ?_
                  refine (.c ?_ (.c ?_ .n))
                  · refine effOne rfl (opEx fun n16 => (gNone rfl (fV (ySub rfl rfl (by omega)) rfl))) ?_
                    refine effStep 6 [] (by kernel_rfl) (closedEx fun n16 => closedSt) (hLeft [5] (by kernel_rfl) (.c (fun _ _ ⟨n16, hs⟩ => hs.ef.sub (.k rfl (.h rfl .n))) .n)) ?_
                    refine .c ?_ .n
                    refine effOne rfl (opEx fun n16 => (gNone rfl (eCallW 6 rfl rfl (.c rfl .n) C95 (fun w hw hb => draw4_any na nb a c l (k6 + 1) (20) w hb ⟨hw.blkAt 2 rfl, hl.eff0 hw⟩ hO (kl (n := 1) hk7 rfl) (by decide)) trSelf))) ?_
                    refine effStep 7 [] (by kernel_rfl) (closedEx fun n16 => closedSt) (hLeft [] (by kernel_rfl) .n) ?_
                    refine .c ?_ .n
                    refine effOne rfl (opEx fun n16 => (gNone rfl (fV (yAdd rfl rfl (by omega)) rfl))) ?_
                    refine effStep 8 [] (by kernel_rfl) (closedEx fun n16 => closedSt) (hLeft [] (by kernel_rfl) .n) ?_
                    refine .c ?_ .n
                    refine effOne rfl (opEx fun n16 => (gNone rfl (fV (yCall rfl (.c rfl (.c rfl .n)) C48 (fun w hw => span4_any _ _ w)) rfl))) ?_
                    refine effStep 9 [] (by kernel_rfl) (closedEx fun n16 => closedSt) (hLeft [] (by kernel_rfl) .n) ?_
                    refine .c ?_ .n
                    refine effOne rfl (opEx fun n16 => (gNone rfl (fV (yBuild (.c rfl .n) (fun w => B26_0 w)) rfl))) ?_
                    refine effStep 11 [] (by kernel_rfl) (closedEx fun n16 => closedSt) (hLeft [] (by kernel_rfl) .n) ?_
                    refine .c ?_ .n
                    refine effOne rfl (opEx fun n16 => (gNone rfl (fStoreL 0 rfl rfl rfl rfl K26 rfl (rfl)))) ?_
                    refine effDone (closedEx fun n16 => closedSt) (hLeft [] (by kernel_rfl) .n) (by kernel_rfl) ?_
                    refine trEx fun n16 => ?_
                    exact kMeetX (n16) (trivial) rfl (.c rfl .n) (.c rfl (.c rfl (.c rfl (.c rfl (.c rfl (.c rfl .n)))))) (.c 1 rfl (.c 1 rfl (.c 1 rfl (.c 1 rfl (.c 1 rfl (.c 0 rfl (.c 0 rfl .r)))))))
                  · refine effOne rfl (opEx fun n16 => (gNone rfl (eCallW 6 rfl rfl (.c rfl .n) C95 (fun w hw hb => draw4_any na nb a c l (k6 + 1) (20) w hb ⟨hw.blkAt 2 rfl, hl.eff0 hw⟩ hO (kl (n := 1) hk7 rfl) (by decide)) trSelf))) ?_
                    refine effStep 3 [7] (by kernel_rfl) (closedEx fun n16 => closedSt) (hLeft [] (by kernel_rfl) .n) ?_
                    refine (.c ?_ (.c ?_ .n))
                    · refine effOne rfl (opEx fun n16 => (gNone rfl (fV (ySub rfl rfl (by omega)) rfl))) ?_
                      refine effStep 7 [] (by kernel_rfl) (closedEx fun n16 => closedSt) (hLeft [] (by kernel_rfl) .n) ?_
                      refine .c ?_ .n
                      refine effOne rfl (opEx fun n16 => (gNone rfl (fV (yAdd rfl rfl (by omega)) rfl))) ?_
                      refine effStep 8 [] (by kernel_rfl) (closedEx fun n16 => closedSt) (hLeft [] (by kernel_rfl) .n) ?_
                      refine .c ?_ .n
                      refine effOne rfl (opEx fun n16 => (gNone rfl (fV (yCall rfl (.c rfl (.c rfl .n)) C48 (fun w hw => span4_any _ _ w)) rfl))) ?_
                      refine effStep 9 [] (by kernel_rfl) (closedEx fun n16 => closedSt) (hLeft [] (by kernel_rfl) .n) ?_
                      refine .c ?_ .n
                      refine effOne rfl (opEx fun n16 => (gNone rfl (fV (yBuild (.c rfl .n) (fun w => B26_0 w)) rfl))) ?_
                      refine effStep 11 [] (by kernel_rfl) (closedEx fun n16 => closedSt) (hLeft [] (by kernel_rfl) .n) ?_
                      refine .c ?_ .n
                      refine effOne rfl (opEx fun n16 => (gNone rfl (fStoreL 0 rfl rfl rfl rfl K26 rfl (rfl)))) ?_
                      refine effDone (closedEx fun n16 => closedSt) (hLeft [] (by kernel_rfl) .n) (by kernel_rfl) ?_
                      refine trEx fun n16 => ?_
                      exact kMeetX (n16) (trivial) rfl (.c rfl .n) (.c rfl (.c rfl (.c rfl (.c rfl (.c rfl (.c rfl .n)))))) (.c 1 rfl (.c 1 rfl (.c 1 rfl (.c 1 rfl (.c 1 rfl (.c 0 rfl (.c 0 rfl .r)))))))
                    · refine effOne rfl (opEx fun n16 => (gNone rfl (fV (yAdd rfl rfl (by omega)) rfl))) ?_
                      refine effStep 3 [] (by kernel_rfl) (closedEx fun n16 => closedSt) (hLeft [] (by kernel_rfl) .n) ?_
                      refine .c ?_ .n
                      refine effOne rfl (opEx fun n16 => (gNone rfl (fV (ySub rfl rfl (by omega)) rfl))) ?_
                      refine effStep 8 [] (by kernel_rfl) (closedEx fun n16 => closedSt) (hLeft [] (by kernel_rfl) .n) ?_
                      refine .c ?_ .n
                      refine effOne rfl (opEx fun n16 => (gNone rfl (fV (yCall rfl (.c rfl (.c rfl .n)) C48 (fun w hw => span4_any _ _ w)) rfl))) ?_
                      refine effStep 9 [] (by kernel_rfl) (closedEx fun n16 => closedSt) (hLeft [] (by kernel_rfl) .n) ?_
                      refine .c ?_ .n
                      refine effOne rfl (opEx fun n16 => (gNone rfl (fV (yBuild (.c rfl .n) (fun w => B26_0 w)) rfl))) ?_
                      refine effStep 11 [] (by kernel_rfl) (closedEx fun n16 => closedSt) (hLeft [] (by kernel_rfl) .n) ?_
                      refine .c ?_ .n
                      refine effOne rfl (opEx fun n16 => (gNone rfl (fStoreL 0 rfl rfl rfl rfl K26 rfl (rfl)))) ?_
                      refine effDone (closedEx fun n16 => closedSt) (hLeft [] (by kernel_rfl) .n) (by kernel_rfl) ?_
                      refine trEx fun n16 => ?_
                      exact kMeetX (n16) (trivial) rfl (.c rfl .n) (.c rfl (.c rfl (.c rfl (.c rfl (.c rfl (.c rfl .n)))))) (.c 1 rfl (.c 1 rfl (.c 1 rfl (.c 1 rfl (.c 1 rfl (.c 0 rfl (.c 0 rfl .r)))))))
              · obtain ⟨lo, elo, blo⟩ : ∃ d, sc - drawQ l (k6 + 1) 20 = d ∧ sc - 19 ≤ d ∧ d ≤ sc := ⟨_, rfl, by omega⟩
                obtain ⟨hi', ehi, bhi⟩ : ∃ d, sc + drawQ l (k6 + 1 + 1) 20 = d ∧ sc ≤ d ∧ d ≤ sc + 19 := ⟨_, rfl, by omega⟩
                rw [elo, ehi]
                clear elo ehi
                refine kSeq ?_
                refine kRegion rfl ?_
                refine lV (yAssign rfl) rfl rfl ?_
                refine lNil ?_
                refine kThen ?_
                refine kSeq ?_
                refine kRegion rfl ?_
                refine lV (yAssign rfl) rfl rfl ?_
                refine lNil ?_
                refine kThen ?_
                refine kSeq ?_
                refine kSeq ?_
                refine kRegion rfl ?_
                refine lV (yMove rfl) rfl rfl ?_
                refine lV (yLen rfl S56) rfl rfl ?_
                refine lV (yMove rfl) rfl rfl ?_
                refine lNil ?_
                refine kThen ?_
                refine kBlock ?_
                refine kLoopX (ι := Nat × Nat × (Own × Own × Own) × List StarV × List (Int × Int) × List (Int × Int)) (fun x => x.1 ≤ ps.length ∧ x.2.1 ≤ 115 + 8 * x.1 ∧ AllT sc (c1, c2) x.2.2.2.1 x.2.2.2.2.1 x.2.2.2.2.2 x.2.2.2.1.length ∧ x.2.2.2.1.length ≤ x.1 ∧ OS 9 x.2.2.1.1 (x.2.2.2.1.map rowS) ∧ OS 2 x.2.2.1.2.1 (x.2.2.2.2.2.map rowE) ∧ OS 1 x.2.2.1.2.2 (x.2.2.2.2.1.map rowX)) (fun x => [(153, i64 (x.1 : Nat)), (17, osV x.2.2.1.2.1 (x.2.2.2.2.2.map rowE).length), (18, osV x.2.2.1.2.2 (x.2.2.2.2.1.map rowX).length)]) [(3, _), (4, _), (13, _), (14, _), (15, _), (16, _), (151, _), (152, _)] (fun x => []) (fun x => ([(n16, blk [i64 lo, i64 hi', osV x.2.2.1.1 (x.2.2.2.1.map rowS).length] 26), (na, blk [i64 ((x.2.1 : Nat) : Int)] 3)] ++ (((osL 58 x.2.2.1.1 ++ osL 82 x.2.2.1.2.1) ++ osL 3 x.2.2.1.2.2) ++ osL 78 g3))) [(n3, _), (nb, _), (nE, _), (nP, _), (n4, _)] (fun x => ps.length - x.1) (0, k6 + 1 + 1, (.e none, .e none, .e none), [], [], []) (⟨Nat.zero_le _, by dsimp only; omega, ⟨rfl, rfl, rfl, fun i hi => absurd hi (by simp)⟩, by simp, OS.empty, OS.empty, OS.empty⟩) rfl (.c rfl (.c rfl (.c rfl .n))) (.c rfl (.c rfl (.c rfl (.c rfl (.c rfl (.c rfl (.c rfl (.c rfl .n)))))))) (.h rfl (.h rfl (.h rfl (.h rfl (.h rfl (.h rfl (.h rfl (by exact SubP.r)))))))) ?_
                rintro ⟨v, kk, ⟨q1, q2, q3⟩, st, im, sk⟩ ⟨hv, hkk, hA, hst, hq1, hq2, hq3⟩
                dsimp only at hv hkk hA hst hq1 hq2 hq3 ⊢
                refine kSeq ?_
                refine kRegion rfl ?_
                refine lV (yLss rfl rfl) rfl rfl ?_
                refine lNil ?_
                refine kThen ?_
                refine kSeq ?_
                refine split (t := 154) rfl (fun h154 => ?_) (fun h154 => ?_)
                · refine kIfT rfl ?_
                  refine kSkip ?_
                  refine kThen ?_
                  refine kSeq ?_
                  refine kBlock ?_
                  refine kSeq ?_
                  refine kRegion rfl ?_
                  refine lV (yMove rfl) rfl rfl ?_
                  refine lV (yIndexS  rfl rfl S56 (fun w hw => OS.rowsE (f := rowV) 0 hg2 hw (.c 3 rfl .n)) (by omega)) rfl rfl ?_
                  refine lV (yLoad1 rfl O3 (cSl0 (fun w hw => OS.rowsE (f := rowV) 0 hg2 hw (.c 3 rfl .n)) (by omega) rfl)) rfl rfl ?_
                  refine lV (yAssign rfl) rfl rfl ?_
                  refine lV (yAssign rfl) rfl rfl ?_
                  refine lNil ?_
                  obtain ⟨px, hpx⟩ : ∃ x, x = ps.getD v 0 := ⟨_, rfl⟩
                  have hpxb := hpb _ (getD_mem (l := ps) (i := v) (by omega) 0)
                  have hpl := hmd.place (i := v) (by omega)
                  rw [← hpx] at hpl hpxb ⊢
                  obtain ⟨r, hr⟩ : ∃ r, r = Scr.placeE ⟨es, (e1, e2), 1 + d0, (0, 131072), ls⟩ ((v : Nat) : Int) := ⟨_, rfl⟩
                  rw [← hr] at hpl
                  have hmu1 : ps.length - (v + 1) < ps.length - v := by omega
                  have hp6 : ps.length ≤ 6 := by omega
                  refine kThen ?_
                  refine kSeq ?_
                  refine kRegion rfl ?_
                  refine lV (yLoadA (vs := [_, _, _, _, _, _, _]) rfl A75 (cOwn 4 rfl rfl)) rfl rfl ?_
                  refine lV (yMove rfl) rfl rfl ?_
                  refine lV (yCall rfl (.c rfl (.c rfl .n)) C50 (fun w hw => Scr.place_any ⟨(some ⟨nE, 0, none⟩), cE, osA g3, osC g3⟩ ⟨es, (e1, e2), 1 + d0, (0, 131072), ls⟩ (v : Nat) w ⟨OS.rowsE (f := Scr.rowE) (0, 0) hg hw (.c 2 rfl .n), OS.rowsE (f := Scr.rowS) (0, 0, false) hg3 hw (.k rfl (.k rfl (.k rfl (.k rfl (.k rfl (.k rfl (.k rfl (by exact (show SubP (osL 78 g3) ((((osL _ q1 ++ osL _ q2) ++ osL _ q3) ++ osL 78 g3)) from SubP.tail)))))))))⟩)) rfl rfl ?_
                  refine same (t := 161) (u := .tuple [.agg [i64 r.1.1, i64 r.1.2].toArray, i64 r.2].toArray) rfl (by rw [hr]) ?_
                  refine lV (yMove rfl) rfl rfl ?_
                  refine lV (yExtract rfl rfl) rfl rfl ?_
                  refine lV (yExtract rfl rfl) rfl rfl ?_
                  refine lE rfl ?_
                  refine eAlloc Z23 fun n21 => ?_
                  refine lE rfl ?_
                  refine eStoreL 0 rfl rfl rfl rfl K23 rfl (rfl) ?_
                  refine lV (yAssign rfl) rfl rfl ?_
                  refine lNil ?_
                  refine kThen ?_
                  refine kSeq ?_
                  refine kSeq ?_
                  refine kRegion rfl ?_
                  refine lV (yMove rfl) rfl rfl ?_
                  refine lV (yEql rfl rfl) rfl rfl ?_
                  refine split (t := 165) rfl (fun h165 => ?_) (fun h165 => ?_)
                  · refine lNil ?_
                    refine kThen ?_
                    refine kIfT rfl ?_
                    refine kExit ?_
                    refine kThenX ?_
                    refine kInX ?_
                    refine kThen ?_
                    refine kRegion rfl ?_
                    refine lV (yAdd rfl rfl (by omega)) rfl rfl ?_
                    refine lV (yMove rfl) rfl rfl ?_
                    refine lNil ?_
                    exact kRoundX (v + 1, kk, (q1, q2, q3), st, im, sk) (⟨by dsimp only; omega, by dsimp only; omega, hA, by dsimp only; omega, hq1, hq2, hq3⟩) (hmu1) rfl (.c rfl (.c rfl (.c rfl .n))) (.c rfl (.c rfl (.c rfl (.c rfl (.c rfl (.c rfl (.c rfl (.c rfl .n)))))))) (.k rfl (.h rfl (.h rfl (.h rfl (.h rfl (.h rfl (.h rfl (.h rfl (by exact SubP.r)))))))))
                  · have hr0 : r.2 = 0 := by have := hpl.1; omega
                    have hpl2 := hpl.2 hr0
                    refine lNil ?_
                    refine kThen ?_
                    refine kIfF rfl ?_
                    refine kSkip ?_
                    refine kThen ?_
                    refine kSeq ?_
                    refine kSeq ?_
                    refine kRegion rfl ?_
                    refine lV (yMove rfl) rfl rfl ?_
                    refine lV (yNeq rfl rfl) rfl rfl ?_
                    refine knownN (t := 167) rfl (fun h => h hr0) ?_
                    refine lV (yMove rfl) rfl rfl ?_
                    refine lGY rfl rfl rfl (oV (yMove rfl) rfl ?_)
                    refine lGY rfl rfl rfl (oV (yLoadA (vs := [_, _]) rfl A23 (cOwn 0 rfl rfl)) rfl ?_)
                    refine lGY rfl rfl rfl (oV (yCall rfl (.c rfl (.c rfl .n)) C51 (fun w hw => inside4_any _ _ _ w)) rfl ?_)
                    refine knownB (t := 171) (c := true) rfl (decide_eq_true hpl2) ?_
                    refine lGY rfl rfl rfl (oV (yNot rfl) rfl ?_)
                    refine lV (yPickF rfl rfl) rfl rfl ?_
                    refine lNil ?_
                    refine kThen ?_
                    refine kIfF rfl ?_
                    refine kSkip ?_
                    refine kThen ?_
                    refine kSeq ?_
                    refine kRegion rfl ?_
                    refine lV (yLoad1 rfl O49 (cOwn 1 rfl rfl)) rfl rfl ?_
                    refine lE rfl ?_
                    refine eCallW 7 rfl rfl (.c rfl .n) C95 (fun w hw hb => draw4_any na nb a c l (kk) (20000) w hb ⟨hw.blkAt 2 rfl, hl.eff0 hw⟩ hO (kl (n := 0) (show kk ≤ 163 by omega) rfl) (by decide)) ?_
                    obtain ⟨yy, eyy, byy⟩ : ∃ d, drawQ l (kk + 1) (20000) = d ∧ 0 ≤ d ∧ d < (20000) := ⟨_, rfl, drawQ_bd _ _ (by omega)⟩
                    rw [eyy]
                    refine lV (yAssign rfl) rfl rfl ?_
                    refine lNil ?_
                    refine kThen ?_
                    refine kSeq ?_
                    have sb1 := sky_bd (s := sc) (m := px) (by omega) (by omega)
                    have sb2 := sky_bd (s := sc) (m := yy) (by omega) (by omega)
                    refine kRegion rfl ?_
                    refine lV (yMove rfl) rfl rfl ?_
                    refine lV (yMove rfl) rfl rfl ?_
                    refine lV (yMove rfl) rfl rfl ?_
                    refine lV (yMul rfl rfl (by omega)) rfl rfl ?_
                    refine lV (yQuo rfl rfl (by omega) (by omega) (by omega)) rfl rfl ?_
                    refine lV (yAdd rfl rfl (by omega)) rfl rfl ?_
                    refine lV (yMove rfl) rfl rfl ?_
                    refine lV (yMove rfl) rfl rfl ?_
                    refine lV (yMove rfl) rfl rfl ?_
                    refine lV (yMul rfl rfl (by omega)) rfl rfl ?_
                    refine lV (yQuo rfl rfl (by omega) (by omega) (by omega)) rfl rfl ?_
                    refine lV (yAdd rfl rfl (by omega)) rfl rfl ?_
                    refine lV (yAssign rfl) rfl rfl ?_
                    refine lV (yAssign rfl) rfl rfl ?_
                    refine lNil ?_
                    refine kThen ?_
                    refine kSeq ?_
                    have b50 := drawQ_bd l (kk + 1 + 1) (n := 5) (by omega)
                    refine kCutX (ι := Nat) (fun z => True) (fun z => [(26, .pointer (some ⟨z, 0, none⟩))]) [(3, _), (4, _), (13, _), (14, _), (15, _), (16, _), (17, _), (18, _), (20, _), (24, _), (25, _), (151, _), (152, _), (153, _)] (fun z => []) (fun z => ([(z, blk (rowS (sq0 r.1.1 r.1.2 yy (drawQ l (kk + 1 + 1) 5))) 58), (na, blk [i64 ((kk + 1 + 1 : Nat) : Int)] 3)] ++ (((osL 58 q1 ++ osL 82 q2) ++ osL 3 q3) ++ osL 78 g3))) [(n3, _), (nb, _), (nE, _), (nP, _), (n4, _), (n16, _)] (.c rfl (.c rfl (.c rfl (.c rfl (.c rfl (.c rfl (.c rfl (.c rfl (.c rfl (.c rfl (.c rfl (.c rfl (.c rfl (.c rfl .n)))))))))))))) (.k rfl (.h rfl (.h rfl (.h rfl (.h rfl (.h rfl (.h rfl .n))))))) ?_ (fun n26 _ => ?_)
                    · refine kDrawE [(1, some [0]), (4, some [0]), (6, none), (9, some [1])] [] [0, 1, 2, 3, 4, 5, 6, 7, 8, 9] 6 hMix (by kernel_rfl) ?_
                      refine .run rfl (yFieldAddr rfl F23_0) rfl rfl ?_
                      refine .run rfl (yLoad1 rfl O3 (cOwn 0 rfl rfl)) rfl rfl ?_
                      refine .run rfl (yMax rfl rfl) rfl rfl ?_
                      refine .run rfl (yFieldAddr rfl F23_1) rfl rfl ?_
                      refine .run rfl (yLoad1 rfl O3 (cOwn 0 rfl rfl)) rfl rfl ?_
                      refine .run rfl (yMin rfl rfl) rfl rfl ?_
                      refine .run rfl (yCall rfl (.c rfl (.c rfl .n)) C48 (fun w hw => span4_any _ _ w)) rfl rfl ?_
                      refine .run rfl (yMove rfl) rfl rfl ?_
                      refine .run rfl (yMove rfl) rfl rfl ?_
                      refine .run rfl (yLoad1 rfl O49 (cOwn 0 rfl rfl)) rfl rfl ?_
                      refine .done ?_
                      refine effStep 10 [14] (by kernel_rfl) closedSt (hLeft [1, 4, 6, 9] (by kernel_rfl) (.c (fun _ _ hs => hs.ef.sub (.h rfl .n)) (.c (fun _ _ hs => hs.ef.sub (.h rfl .n)) (.c (fun _ _ hs => hs.ef) (.c (fun _ _ hs => hs.ef.sub (.k rfl (.h rfl .n))) .n))))) ?_
                      refine (.c ?_ (.c ?_ .n))
                      · refine effOne rfl (gNone rfl (eCallW 7 rfl rfl (.c rfl .n) C95 (fun w hw hb => draw4_any na nb a c l (kk + 1) (5) w hb ⟨hw.blkAt 2 rfl, hl.eff0 hw⟩ hO (kl (n := 1) (show kk ≤ 163 by omega) rfl) (by decide)) trSelf)) ?_
                        refine effStep 11 [14] (by kernel_rfl) closedSt (hLeft [] (by kernel_rfl) .n) ?_
                        refine (.c ?_ (.c ?_ .n))
                        · refine effOne rfl (gNone rfl (fV (yAdd rfl rfl (by omega)) rfl)) ?_
                          refine effStep 12 [14] (by kernel_rfl) closedSt (hLeft [] (by kernel_rfl) .n) ?_
                          refine (.c ?_ (.c ?_ .n))
                          · refine effOne rfl (gNone rfl (fV (yCall rfl (.c rfl (.c rfl .n)) C48 (fun w hw => span4_any _ _ w)) rfl)) ?_
                            refine effStep 13 [14] (by kernel_rfl) closedSt (hLeft [] (by kernel_rfl) .n) ?_
                            refine (.c ?_ (.c ?_ .n))
                            · refine effOne rfl (gNone rfl (fV (yBuild (.c rfl (.c rfl .n)) (fun w => B58_0_1 w)) rfl)) ?_
                              refine effStep 14 [] (by kernel_rfl) closedSt (hLeft [] (by kernel_rfl) .n) ?_
                              refine .c ?_ .n
                              refine effOne rfl (gNone rfl (fAlloc Z58)) ?_
                              refine effStep 15 [] (by kernel_rfl) (closedEx fun n26 => closedSt) (hLeft [] (by kernel_rfl) .n) ?_
                              refine .c ?_ .n
                              refine effOne rfl (opEx fun n26 => (gNone rfl (fStoreL 0 rfl rfl rfl rfl K58 rfl (rfl)))) ?_
                              refine effDone (closedEx fun n26 => closedSt) (hLeft [] (by kernel_rfl) .n) (by kernel_rfl) ?_
                              refine trEx fun n26 => ?_
                              exact kMeetX (n26) (trivial) rfl (.c rfl .n) (.c rfl (.c rfl (.c rfl (.c rfl (.c rfl (.c rfl (.c rfl (.c rfl (.c rfl (.c rfl (.c rfl (.c rfl (.c rfl (.c rfl .n)))))))))))))) (.c 2 rfl (.c 2 rfl (.c 2 rfl (.c 2 rfl (.c 2 rfl (.c 2 rfl (.c 0 rfl (.c 1 rfl (.d 0 .r)))))))))
                            · refine effOne rfl (gNone rfl (fAlloc Z58)) ?_
                              refine effStep 13 [] (by kernel_rfl) (closedEx fun n26 => closedSt) (hLeft [] (by kernel_rfl) .n) ?_
                              refine .c ?_ .n
                              refine effOne rfl (opEx fun n26 => (gNone rfl (fV (yBuild (.c rfl (.c rfl .n)) (fun w => B58_0_1 w)) rfl))) ?_
                              refine effStep 15 [] (by kernel_rfl) (closedEx fun n26 => closedSt) (hLeft [] (by kernel_rfl) .n) ?_
                              refine .c ?_ .n
                              refine effOne rfl (opEx fun n26 => (gNone rfl (fStoreL 0 rfl rfl rfl rfl K58 rfl (rfl)))) ?_
                              refine effDone (closedEx fun n26 => closedSt) (hLeft [] (by kernel_rfl) .n) (by kernel_rfl) ?_
                              refine trEx fun n26 => ?_
                              exact kMeetX (n26) (trivial) rfl (.c rfl .n) (.c rfl (.c rfl (.c rfl (.c rfl (.c rfl (.c rfl (.c rfl (.c rfl (.c rfl (.c rfl (.c rfl (.c rfl (.c rfl (.c rfl .n)))))))))))))) (.c 2 rfl (.c 2 rfl (.c 2 rfl (.c 2 rfl (.c 2 rfl (.c 2 rfl (.c 0 rfl (.c 1 rfl (.d 0 .r)))))))))
                          · refine effOne rfl (gNone rfl (fAlloc Z58)) ?_
                            refine effStep 12 [] (by kernel_rfl) (closedEx fun n26 => closedSt) (hLeft [] (by kernel_rfl) .n) ?_
                            refine .c ?_ .n
                            refine effOne rfl (opEx fun n26 => (gNone rfl (fV (yCall rfl (.c rfl (.c rfl .n)) C48 (fun w hw => span4_any _ _ w)) rfl))) ?_
                            refine effStep 13 [] (by kernel_rfl) (closedEx fun n26 => closedSt) (hLeft [] (by kernel_rfl) .n) ?_
                            refine .c ?_ .n
                            refine effOne rfl (opEx fun n26 => (gNone rfl (fV (yBuild (.c rfl (.c rfl .n)) (fun w => B58_0_1 w)) rfl))) ?_
                            refine effStep 15 [] (by kernel_rfl) (closedEx fun n26 => closedSt) (hLeft [] (by kernel_rfl) .n) ?_
                            refine .c ?_ .n
                            refine effOne rfl (opEx fun n26 => (gNone rfl (fStoreL 0 rfl rfl rfl rfl K58 rfl (rfl)))) ?_
                            refine effDone (closedEx fun n26 => closedSt) (hLeft [] (by kernel_rfl) .n) (by kernel_rfl) ?_
                            refine trEx fun n26 => ?_
                            exact kMeetX (n26) (trivial) rfl (.c rfl .n) (.c rfl (.c rfl (.c rfl (.c rfl (.c rfl (.c rfl (.c rfl (.c rfl (.c rfl (.c rfl (.c rfl (.c rfl (.c rfl (.c rfl .n)))))))))))))) (.c 2 rfl (.c 2 rfl (.c 2 rfl (.c 2 rfl (.c 2 rfl (.c 2 rfl (.c 0 rfl (.c 1 rfl (.d 0 .r)))))))))
                        · refine effOne rfl (gNone rfl (fAlloc Z58)) ?_
                          refine effStep 11 [] (by kernel_rfl) (closedEx fun n26 => closedSt) (hLeft [] (by kernel_rfl) .n) ?_
                          refine .c ?_ .n
                          refine effOne rfl (opEx fun n26 => (gNone rfl (fV (yAdd rfl rfl (by omega)) rfl))) ?_
                          refine effStep 12 [] (by kernel_rfl) (closedEx fun n26 => closedSt) (hLeft [] (by kernel_rfl) .n) ?_
                          refine .c ?_ .n
                          refine effOne rfl (opEx fun n26 => (gNone rfl (fV (yCall rfl (.c rfl (.c rfl .n)) C48 (fun w hw => span4_any _ _ w)) rfl))) ?_
                          refine effStep 13 [] (by kernel_rfl) (closedEx fun n26 => closedSt) (hLeft [] (by kernel_rfl) .n) ?_
                          refine .c ?_ .n
                          refine effOne rfl (opEx fun n26 => (gNone rfl (fV (yBuild (.c rfl (.c rfl .n)) (fun w => B58_0_1 w)) rfl))) ?_
                          refine effStep 15 [] (by kernel_rfl) (closedEx fun n26 => closedSt) (hLeft [] (by kernel_rfl) .n) ?_
                          refine .c ?_ .n
                          refine effOne rfl (opEx fun n26 => (gNone rfl (fStoreL 0 rfl rfl rfl rfl K58 rfl (rfl)))) ?_
                          refine effDone (closedEx fun n26 => closedSt) (hLeft [] (by kernel_rfl) .n) (by kernel_rfl) ?_
                          refine trEx fun n26 => ?_
                          exact kMeetX (n26) (trivial) rfl (.c rfl .n) (.c rfl (.c rfl (.c rfl (.c rfl (.c rfl (.c rfl (.c rfl (.c rfl (.c rfl (.c rfl (.c rfl (.c rfl (.c rfl (.c rfl .n)))))))))))))) (.c 2 rfl (.c 2 rfl (.c 2 rfl (.c 2 rfl (.c 2 rfl (.c 2 rfl (.c 0 rfl (.c 1 rfl (.d 0 .r)))))))))
                      · refine effOne rfl (gNone rfl (fAlloc Z58)) ?_
                        refine effStep 10 [] (by kernel_rfl) (closedEx fun n26 => closedSt) (hLeft [1, 4, 6, 9] (by kernel_rfl) (.c (fun _ _ ⟨n26, hs⟩ => hs.ef.sub (.k rfl (.h rfl .n))) (.c (fun _ _ ⟨n26, hs⟩ => hs.ef.sub (.k rfl (.h rfl .n))) (.c (fun _ _ ⟨n26, hs⟩ => hs.ef.sub (.k rfl (.h rfl (.h rfl (.h rfl (.h rfl (.h rfl (.h rfl (.h rfl (.h rfl .r)))))))))) (.c (fun _ _ ⟨n26, hs⟩ => hs.ef.sub (.k rfl (.k rfl (.h rfl .n)))) .n))))) ?_
                        refine .c ?_ .n
                        refine effOne rfl (opEx fun n26 => (gNone rfl (eCallW 8 rfl rfl (.c rfl .n) C95 (fun w hw hb => draw4_any na nb a c l (kk + 1) (5) w hb ⟨hw.blkAt 3 rfl, hl.eff0 hw⟩ hO (kl (n := 1) (show kk ≤ 163 by omega) rfl) (by decide)) trSelf))) ?_
                        refine effStep 11 [] (by kernel_rfl) (closedEx fun n26 => closedSt) (hLeft [] (by kernel_rfl) .n) ?_
                        refine .c ?_ .n
                        refine effOne rfl (opEx fun n26 => (gNone rfl (fV (yAdd rfl rfl (by omega)) rfl))) ?_
                        refine effStep 12 [] (by kernel_rfl) (closedEx fun n26 => closedSt) (hLeft [] (by kernel_rfl) .n) ?_
                        refine .c ?_ .n
                        refine effOne rfl (opEx fun n26 => (gNone rfl (fV (yCall rfl (.c rfl (.c rfl .n)) C48 (fun w hw => span4_any _ _ w)) rfl))) ?_
                        refine effStep 13 [] (by kernel_rfl) (closedEx fun n26 => closedSt) (hLeft [] (by kernel_rfl) .n) ?_
                        refine .c ?_ .n
                        refine effOne rfl (opEx fun n26 => (gNone rfl (fV (yBuild (.c rfl (.c rfl .n)) (fun w => B58_0_1 w)) rfl))) ?_
                        refine effStep 15 [] (by kernel_rfl) (closedEx fun n26 => closedSt) (hLeft [] (by kernel_rfl) .n) ?_
                        refine .c ?_ .n
                        refine effOne rfl (opEx fun n26 => (gNone rfl (fStoreL 0 rfl rfl rfl rfl K58 rfl (rfl)))) ?_
                        refine effDone (closedEx fun n26 => closedSt) (hLeft [] (by kernel_rfl) .n) (by kernel_rfl) ?_
                        refine trEx fun n26 => ?_
                        exact kMeetX (n26) (trivial) rfl (.c rfl .n) (.c rfl (.c rfl (.c rfl (.c rfl (.c rfl (.c rfl (.c rfl (.c rfl (.c rfl (.c rfl (.c rfl (.c rfl (.c rfl (.c rfl .n)))))))))))))) (.c 2 rfl (.c 2 rfl (.c 2 rfl (.c 2 rfl (.c 2 rfl (.c 2 rfl (.c 0 rfl (.c 1 rfl (.d 0 .r)))))))))
                    · obtain ⟨dd, edd, bdd⟩ : ∃ d, drawQ l (kk + 1 + 1) 5 = d ∧ 0 ≤ d ∧ d < 5 := ⟨_, rfl, b50⟩
                      obtain ⟨k7, ek7⟩ : ∃ k, kk + 1 + 1 = k := ⟨_, rfl⟩
                      have hk8 : k7 ≤ 170 := by omega
                      rw [edd, ek7]
                      have hcd : ∀ d, -4000 ≤ pd d (c1, c2) ∧ pd d (c1, c2) ≤ 4999 := fun d => by cases d <;> simp only [pd, Bool.false_eq_true, if_false, if_true] <;> omega
                      refine kSeq ?_
                      refine kSeq ?_
                      refine kRegion rfl ?_
                      refine lV (yLoad1 rfl O49 (cOwn 0 rfl rfl)) rfl rfl ?_
                      refine lE rfl ?_
                      refine eCallW 7 rfl rfl (.c rfl .n) C95 (fun w hw hb => draw4_any na nb a c l (k7) (2) w hb ⟨hw.blkAt 1 rfl, hl.eff0 hw⟩ hO (kl (n := 0) hk8 rfl) (by decide)) ?_
                      obtain ⟨k8, ek8⟩ : ∃ k, k7 + 1 = k := ⟨_, rfl⟩
                      rw [ek8]
                      have hk9 : k8 ≤ 171 := by omega
                      refine lV (yEql rfl rfl) rfl rfl ?_
                      refine lNil ?_
                      refine kThen ?_
                      refine kCutX (ι := StarV × Nat) (fun z => StarT sc (c1, c2) z.1 (px, yy) (c1 + sc * px / 1000, c2 + sc * yy / 1000) ∧ z.2 ≤ kk + 8) (fun z => []) [(3, _), (4, _), (13, _), (14, _), (15, _), (16, _), (17, _), (18, _), (20, _), (24, _), (25, _), (26, _), (151, _), (152, _), (153, _)] (fun z => []) (fun z => ([(n26, blk (rowS z.1) 58), (na, blk [i64 ((z.2 : Nat) : Int)] 3)] ++ (((osL 58 q1 ++ osL 82 q2) ++ osL 3 q3) ++ osL 78 g3))) [(n3, _), (nb, _), (nE, _), (nP, _), (n4, _), (n16, _)] (.c rfl (.c rfl (.c rfl (.c rfl (.c rfl (.c rfl (.c rfl (.c rfl (.c rfl (.c rfl (.c rfl (.c rfl (.c rfl (.c rfl (.c rfl .n))))))))))))))) (.h rfl (.h rfl (.h rfl (.h rfl (.h rfl (.h rfl .n)))))) ?_ (fun z hz => ?_)
                      · refine split (t := 204) rfl (fun h204 => ?_) (fun h204 => ?_)
                        · refine kIfT rfl ?_
                          have y0 := drawQ_bd l (k8 + 1) (n := 5) (by omega)
                          have y1 := drawQ_bd l (k8 + 1 + 1) (n := 5) (by omega)
                          have y2 := drawQ_bd l (k8 + 1 + 1 + 1) (n := 5) (by omega)
                          have y3 := drawQ_bd l (k8 + 1 + 1 + 1 + 1) (n := 5) (by omega)
                          have hmt : StarT sc (c1, c2) (zq1 l r.1.1 r.1.2 yy dd k8 (c1 + sc * px / 1000) (c2 + sc * yy / 1000)).1 (px, yy) (c1 + sc * px / 1000, c2 + sc * yy / 1000) ∧ k8 + 1 + 1 + 1 + 1 ≤ kk + 8 := ⟨star4 bsc hcd (by omega) hpl2 (by omega) bdd _ rfl rfl fun _ => ⟨_, _, _, _, y0, y1, y2, y3, rfl, rfl⟩, by omega⟩
                          have i208 : In64 (c1 + sc * px / 1000 - drawQ l (k8 + 1) 5) := ⟨by omega, by omega⟩
                          have i212 : In64 (c1 + sc * px / 1000 + drawQ l (k8 + 1 + 1) 5) := ⟨by omega, by omega⟩
                          have i217 : In64 (c2 + sc * yy / 1000 - drawQ l (k8 + 1 + 1 + 1) 5) := ⟨by omega, by omega⟩
                          have i221 : In64 (c2 + sc * yy / 1000 + drawQ l (k8 + 1 + 1 + 1 + 1) 5) := ⟨by omega, by omega⟩
                          refine kDrawE [(1, some [0]), (5, some [0]), (10, some [0]), (14, some [0])] [] [0, 1, 4, 5, 9, 10, 13, 14, 18, 20, 22] 13 hMix (by kernel_rfl) ?_
                          refine .run rfl (yMove rfl) rfl rfl ?_
                          refine .run rfl (yLoad1 rfl O49 (cOwn 0 rfl rfl)) rfl rfl ?_
                          refine .run rfl (yMove rfl) rfl rfl ?_
                          refine .run rfl (yLoad1 rfl O49 (cOwn 0 rfl rfl)) rfl rfl ?_
                          refine .run rfl (yMove rfl) rfl rfl ?_
                          refine .run rfl (yLoad1 rfl O49 (cOwn 0 rfl rfl)) rfl rfl ?_
                          refine .run rfl (yMove rfl) rfl rfl ?_
                          refine .run rfl (yLoad1 rfl O49 (cOwn 0 rfl rfl)) rfl rfl ?_
                          refine .run rfl (yFieldAddr rfl F58_2) rfl rfl ?_
                          refine .run rfl (yFieldAddr rfl F58_3) rfl rfl ?_
                          refine .run rfl (yFieldAddr rfl F58_4) rfl rfl ?_
                          refine .done ?_
                          refine effStep 2 [] (by kernel_rfl) closedSt (hLeft [1, 5, 10, 14] (by kernel_rfl) (.c (fun _ _ hs => hs.ef.sub (.h rfl .n)) (.c (fun _ _ hs => hs.ef.sub (.h rfl .n)) (.c (fun _ _ hs => hs.ef.sub (.h rfl .n)) (.c (fun _ _ hs => hs.ef.sub (.h rfl .n)) .n))))) ?_
                          refine .c ?_ .n
                          refine effOne rfl (gNone rfl (eCallW 7 rfl rfl (.c rfl .n) C95 (fun w hw hb => draw4_any na nb a c l (k8) (5) w hb ⟨hw.blkAt 1 rfl, hl.eff0 hw⟩ hO (kl (n := 0) hk9 rfl) (by decide)) trSelf)) ?_
                          refine effStep 3 [6] (by kernel_rfl) closedSt (hLeft [5, 10, 14] (by kernel_rfl) (.c (fun _ _ hs => hs.ef.sub (.h rfl .n)) (.c (fun _ _ hs => hs.ef.sub (.h rfl .n)) (.c (fun _ _ hs => hs.ef.sub (.h rfl .n)) .n)))) ?_
                          refine (.c ?_ (.c ?_ .n))
                          · refine effOne rfl (gNone rfl (fV (ySub rfl rfl (i208)) rfl)) ?_
                            refine effStep 6 [] (by kernel_rfl) closedSt (hLeft [5, 10, 14] (by kernel_rfl) (.c (fun _ _ hs => hs.ef.sub (.h rfl .n)) (.c (fun _ _ hs => hs.ef.sub (.h rfl .n)) (.c (fun _ _ hs => hs.ef.sub (.h rfl .n)) .n)))) ?_
                            refine .c ?_ .n
                            refine effOne rfl (gNone rfl (eCallW 7 rfl rfl (.c rfl .n) C95 (fun w hw hb => draw4_any na nb a c l (k8 + 1) (5) w hb ⟨hw.blkAt 1 rfl, hl.eff0 hw⟩ hO (kl (n := 1) hk9 rfl) (by decide)) trSelf)) ?_
                            refine effStep 7 [] (by kernel_rfl) closedSt (hLeft [10, 14] (by kernel_rfl) (.c (fun _ _ hs => hs.ef.sub (.h rfl .n)) (.c (fun _ _ hs => hs.ef.sub (.h rfl .n)) .n))) ?_
                            refine .c ?_ .n
                            refine effOne rfl (gNone rfl (fV (yAdd rfl rfl (i212)) rfl)) ?_
                            refine effStep 8 [] (by kernel_rfl) closedSt (hLeft [10, 14] (by kernel_rfl) (.c (fun _ _ hs => hs.ef.sub (.h rfl .n)) (.c (fun _ _ hs => hs.ef.sub (.h rfl .n)) .n))) ?_
                            refine .c ?_ .n
                            refine effOne rfl (gNone rfl (fV (yCall rfl (.c rfl (.c rfl .n)) C48 (fun w hw => span4_any _ _ w)) rfl)) ?_
                            refine effStep 11 [] (by kernel_rfl) closedSt (hLeft [10, 14] (by kernel_rfl) (.c (fun _ _ hs => hs.ef.sub (.h rfl .n)) (.c (fun _ _ hs => hs.ef.sub (.h rfl .n)) .n))) ?_
                            refine .c ?_ .n
                            refine effOne rfl (gNone rfl (eCallW 7 rfl rfl (.c rfl .n) C95 (fun w hw hb => draw4_any na nb a c l (k8 + 1 + 1) (5) w hb ⟨hw.blkAt 1 rfl, hl.eff0 hw⟩ hO (kl (n := 2) hk9 rfl) (by decide)) trSelf)) ?_
                            refine effStep 12 [15] (by kernel_rfl) closedSt (hLeft [14] (by kernel_rfl) (.c (fun _ _ hs => hs.ef.sub (.h rfl .n)) .n)) ?_
                            refine (.c ?_ (.c ?_ .n))
                            · refine effOne rfl (gNone rfl (fV (ySub rfl rfl (i217)) rfl)) ?_
                              refine effStep 15 [] (by kernel_rfl) closedSt (hLeft [14] (by kernel_rfl) (.c (fun _ _ hs => hs.ef.sub (.h rfl .n)) .n)) ?_
                              refine .c ?_ .n
                              refine effOne rfl (gNone rfl (eCallW 7 rfl rfl (.c rfl .n) C95 (fun w hw hb => draw4_any na nb a c l (k8 + 1 + 1 + 1) (5) w hb ⟨hw.blkAt 1 rfl, hl.eff0 hw⟩ hO (kl (n := 3) hk9 rfl) (by decide)) trSelf)) ?_
                              refine effStep 16 [] (by kernel_rfl) closedSt (hLeft [] (by kernel_rfl) .n) ?_
                              refine .c ?_ .n
                              refine effOne rfl (gNone rfl (fV (yAdd rfl rfl (i221)) rfl)) ?_
                              refine effStep 17 [] (by kernel_rfl) closedSt (hLeft [] (by kernel_rfl) .n) ?_
                              refine .c ?_ .n
                              refine effOne rfl (gNone rfl (fV (yCall rfl (.c rfl (.c rfl .n)) C48 (fun w hw => span4_any _ _ w)) rfl)) ?_
                              refine effStep 19 [] (by kernel_rfl) closedSt (hLeft [] (by kernel_rfl) .n) ?_
                              refine .c ?_ .n
                              refine effOne rfl (gNone rfl (fStoreL 6 rfl rfl rfl rfl K4 rfl (rfl))) ?_
                              refine effStep 21 [] (by kernel_rfl) closedSt (hLeft [] (by kernel_rfl) .n) ?_
                              refine .c ?_ .n
                              refine effOne rfl (gNone rfl (fStoreL 6 rfl rfl rfl rfl K23 rfl (rfl))) ?_
                              refine effStep 23 [] (by kernel_rfl) closedSt (hLeft [] (by kernel_rfl) .n) ?_
                              refine .c ?_ .n
                              refine effOne rfl (gNone rfl (fStoreL 6 rfl rfl rfl rfl K23 rfl (rfl))) ?_
                              refine effDone closedSt (hLeft [] (by kernel_rfl) .n) (by kernel_rfl) ?_
                              exact kMeetX (zq1 l r.1.1 r.1.2 yy dd k8 (c1 + sc * px / 1000) (c2 + sc * yy / 1000)) (hmt) rfl .n (.c rfl (.c rfl (.c rfl (.c rfl (.c rfl (.c rfl (.c rfl (.c rfl (.c rfl (.c rfl (.c rfl (.c rfl (.c rfl (.c rfl (.c rfl .n))))))))))))))) (.h rfl (.h rfl (.h rfl (.h rfl (.h rfl (.h rfl (.h rfl (.h rfl .r))))))))
                            · refine effOne rfl (gNone rfl (eCallW 7 rfl rfl (.c rfl .n) C95 (fun w hw hb => draw4_any na nb a c l (k8 + 1 + 1 + 1) (5) w hb ⟨hw.blkAt 1 rfl, hl.eff0 hw⟩ hO (kl (n := 3) hk9 rfl) (by decide)) trSelf)) ?_
                              refine effStep 12 [16] (by kernel_rfl) closedSt (hLeft [] (by kernel_rfl) .n) ?_
                              refine (.c ?_ (.c ?_ .n))
                              · refine effOne rfl (gNone rfl (fV (ySub rfl rfl (i217)) rfl)) ?_
                                refine effStep 16 [] (by kernel_rfl) closedSt (hLeft [] (by kernel_rfl) .n) ?_
                                refine .c ?_ .n
                                refine effOne rfl (gNone rfl (fV (yAdd rfl rfl (i221)) rfl)) ?_
                                refine effStep 17 [] (by kernel_rfl) closedSt (hLeft [] (by kernel_rfl) .n) ?_
                                refine .c ?_ .n
                                refine effOne rfl (gNone rfl (fV (yCall rfl (.c rfl (.c rfl .n)) C48 (fun w hw => span4_any _ _ w)) rfl)) ?_
                                refine effStep 19 [] (by kernel_rfl) closedSt (hLeft [] (by kernel_rfl) .n) ?_
                                refine .c ?_ .n
                                refine effOne rfl (gNone rfl (fStoreL 6 rfl rfl rfl rfl K4 rfl (rfl))) ?_
                                refine effStep 21 [] (by kernel_rfl) closedSt (hLeft [] (by kernel_rfl) .n) ?_
                                refine .c ?_ .n
                                refine effOne rfl (gNone rfl (fStoreL 6 rfl rfl rfl rfl K23 rfl (rfl))) ?_
                                refine effStep 23 [] (by kernel_rfl) closedSt (hLeft [] (by kernel_rfl) .n) ?_
                                refine .c ?_ .n
                                refine effOne rfl (gNone rfl (fStoreL 6 rfl rfl rfl rfl K23 rfl (rfl))) ?_
                                refine effDone closedSt (hLeft [] (by kernel_rfl) .n) (by kernel_rfl) ?_
                                exact kMeetX (zq1 l r.1.1 r.1.2 yy dd k8 (c1 + sc * px / 1000) (c2 + sc * yy / 1000)) (hmt) rfl .n (.c rfl (.c rfl (.c rfl (.c rfl (.c rfl (.c rfl (.c rfl (.c rfl (.c rfl (.c rfl (.c rfl (.c rfl (.c rfl (.c rfl (.c rfl .n))))))))))))))) (.h rfl (.h rfl (.h rfl (.h rfl (.h rfl (.h rfl (.h rfl (.h rfl .r))))))))
                              · refine effOne rfl (gNone rfl (fV (yAdd rfl rfl (i221)) rfl)) ?_
                                refine effStep 12 [] (by kernel_rfl) closedSt (hLeft [] (by kernel_rfl) .n) ?_
                                refine .c ?_ .n
                                refine effOne rfl (gNone rfl (fV (ySub rfl rfl (i217)) rfl)) ?_
                                refine effStep 17 [] (by kernel_rfl) closedSt (hLeft [] (by kernel_rfl) .n) ?_
                                refine .c ?_ .n
                                refine effOne rfl (gNone rfl (fV (yCall rfl (.c rfl (.c rfl .n)) C48 (fun w hw => span4_any _ _ w)) rfl)) ?_
                                refine effStep 19 [] (by kernel_rfl) closedSt (hLeft [] (by kernel_rfl) .n) ?_
                                refine .c ?_ .n
                                refine effOne rfl (gNone rfl (fStoreL 6 rfl rfl rfl rfl K4 rfl (rfl))) ?_
                                refine effStep 21 [] (by kernel_rfl) closedSt (hLeft [] (by kernel_rfl) .n) ?_
                                refine .c ?_ .n
                                refine effOne rfl (gNone rfl (fStoreL 6 rfl rfl rfl rfl K23 rfl (rfl))) ?_
                                refine effStep 23 [] (by kernel_rfl) closedSt (hLeft [] (by kernel_rfl) .n) ?_
                                refine .c ?_ .n
                                refine effOne rfl (gNone rfl (fStoreL 6 rfl rfl rfl rfl K23 rfl (rfl))) ?_
                                refine effDone closedSt (hLeft [] (by kernel_rfl) .n) (by kernel_rfl) ?_
                                exact kMeetX (zq1 l r.1.1 r.1.2 yy dd k8 (c1 + sc * px / 1000) (c2 + sc * yy / 1000)) (hmt) rfl .n (.c rfl (.c rfl (.c rfl (.c rfl (.c rfl (.c rfl (.c rfl (.c rfl (.c rfl (.c rfl (.c rfl (.c rfl (.c rfl (.c rfl (.c rfl .n))))))))))))))) (.h rfl (.h rfl (.h rfl (.h rfl (.h rfl (.h rfl (.h rfl (.h rfl .r))))))))
                          · refine effOne rfl (gNone rfl (eCallW 7 rfl rfl (.c rfl .n) C95 (fun w hw hb => draw4_any na nb a c l (k8 + 1) (5) w hb ⟨hw.blkAt 1 rfl, hl.eff0 hw⟩ hO (kl (n := 1) hk9 rfl) (by decide)) trSelf)) ?_
                            refine effStep 3 [7] (by kernel_rfl) closedSt (hLeft [10, 14] (by kernel_rfl) (.c (fun _ _ hs => hs.ef.sub (.h rfl .n)) (.c (fun _ _ hs => hs.ef.sub (.h rfl .n)) .n))) ?_
                            refine (.c ?_ (.c ?_ .n))
                            · refine effOne rfl (gNone rfl (fV (ySub rfl rfl (i208)) rfl)) ?_
                              refine effStep 7 [] (by kernel_rfl) closedSt (hLeft [10, 14] (by kernel_rfl) (.c (fun _ _ hs => hs.ef.sub (.h rfl .n)) (.c (fun _ _ hs => hs.ef.sub (.h rfl .n)) .n))) ?_
                              refine .c ?_ .n
                              refine effOne rfl (gNone rfl (fV (yAdd rfl rfl (i212)) rfl)) ?_
                              refine effStep 8 [] (by kernel_rfl) closedSt (hLeft [10, 14] (by kernel_rfl) (.c (fun _ _ hs => hs.ef.sub (.h rfl .n)) (.c (fun _ _ hs => hs.ef.sub (.h rfl .n)) .n))) ?_
                              refine .c ?_ .n
                              refine effOne rfl (gNone rfl (fV (yCall rfl (.c rfl (.c rfl .n)) C48 (fun w hw => span4_any _ _ w)) rfl)) ?_
                              refine effStep 11 [] (by kernel_rfl) closedSt (hLeft [10, 14] (by kernel_rfl) (.c (fun _ _ hs => hs.ef.sub (.h rfl .n)) (.c (fun _ _ hs => hs.ef.sub (.h rfl .n)) .n))) ?_
                              refine .c ?_ .n
                              refine effOne rfl (gNone rfl (eCallW 7 rfl rfl (.c rfl .n) C95 (fun w hw hb => draw4_any na nb a c l (k8 + 1 + 1) (5) w hb ⟨hw.blkAt 1 rfl, hl.eff0 hw⟩ hO (kl (n := 2) hk9 rfl) (by decide)) trSelf)) ?_
                              refine effStep 12 [15] (by kernel_rfl) closedSt (hLeft [14] (by kernel_rfl) (.c (fun _ _ hs => hs.ef.sub (.h rfl .n)) .n)) ?_
                              refine (.c ?_ (.c ?_ .n))
                              · refine effOne rfl (gNone rfl (fV (ySub rfl rfl (i217)) rfl)) ?_
                                refine effStep 15 [] (by kernel_rfl) closedSt (hLeft [14] (by kernel_rfl) (.c (fun _ _ hs => hs.ef.sub (.h rfl .n)) .n)) ?_
                                refine .c ?_ .n
                                refine effOne rfl (gNone rfl (eCallW 7 rfl rfl (.c rfl .n) C95 (fun w hw hb => draw4_any na nb a c l (k8 + 1 + 1 + 1) (5) w hb ⟨hw.blkAt 1 rfl, hl.eff0 hw⟩ hO (kl (n := 3) hk9 rfl) (by decide)) trSelf)) ?_
                                refine effStep 16 [] (by kernel_rfl) closedSt (hLeft [] (by kernel_rfl) .n) ?_
                                refine .c ?_ .n
                                refine effOne rfl (gNone rfl (fV (yAdd rfl rfl (i221)) rfl)) ?_
                                refine effStep 17 [] (by kernel_rfl) closedSt (hLeft [] (by kernel_rfl) .n) ?_
                                refine .c ?_ .n
                                refine effOne rfl (gNone rfl (fV (yCall rfl (.c rfl (.c rfl .n)) C48 (fun w hw => span4_any _ _ w)) rfl)) ?_
                                refine effStep 19 [] (by kernel_rfl) closedSt (hLeft [] (by kernel_rfl) .n) ?_
                                refine .c ?_ .n
                                refine effOne rfl (gNone rfl (fStoreL 6 rfl rfl rfl rfl K4 rfl (rfl))) ?_
                                refine effStep 21 [] (by kernel_rfl) closedSt (hLeft [] (by kernel_rfl) .n) ?_
                                refine .c ?_ .n
                                refine effOne rfl (gNone rfl (fStoreL 6 rfl rfl rfl rfl K23 rfl (rfl))) ?_
                                refine effStep 23 [] (by kernel_rfl) closedSt (hLeft [] (by kernel_rfl) .n) ?_
                                refine .c ?_ .n
                                refine effOne rfl (gNone rfl (fStoreL 6 rfl rfl rfl rfl K23 rfl (rfl))) ?_
                                refine effDone closedSt (hLeft [] (by kernel_rfl) .n) (by kernel_rfl) ?_
                                exact kMeetX (zq1 l r.1.1 r.1.2 yy dd k8 (c1 + sc * px / 1000) (c2 + sc * yy / 1000)) (hmt) rfl .n (.c rfl (.c rfl (.c rfl (.c rfl (.c rfl (.c rfl (.c rfl (.c rfl (.c rfl (.c rfl (.c rfl (.c rfl (.c rfl (.c rfl (.c rfl .n))))))))))))))) (.h rfl (.h rfl (.h rfl (.h rfl (.h rfl (.h rfl (.h rfl (.h rfl .r))))))))
                              · refine effOne rfl (gNone rfl (eCallW 7 rfl rfl (.c rfl .n) C95 (fun w hw hb => draw4_any na nb a c l (k8 + 1 + 1 + 1) (5) w hb ⟨hw.blkAt 1 rfl, hl.eff0 hw⟩ hO (kl (n := 3) hk9 rfl) (by decide)) trSelf)) ?_
                                refine effStep 12 [16] (by kernel_rfl) closedSt (hLeft [] (by kernel_rfl) .n) ?_
                                refine (.c ?_ (.c ?_ .n))
                                · refine effOne rfl (gNone rfl (fV (ySub rfl rfl (i217)) rfl)) ?_
                                  refine effStep 16 [] (by kernel_rfl) closedSt (hLeft [] (by kernel_rfl) .n) ?_
                                  refine .c ?_ .n
                                  refine effOne rfl (gNone rfl (fV (yAdd rfl rfl (i221)) rfl)) ?_
                                  refine effStep 17 [] (by kernel_rfl) closedSt (hLeft [] (by kernel_rfl) .n) ?_
                                  refine .c ?_ .n
                                  refine effOne rfl (gNone rfl (fV (yCall rfl (.c rfl (.c rfl .n)) C48 (fun w hw => span4_any _ _ w)) rfl)) ?_
                                  refine effStep 19 [] (by kernel_rfl) closedSt (hLeft [] (by kernel_rfl) .n) ?_
                                  refine .c ?_ .n
                                  refine effOne rfl (gNone rfl (fStoreL 6 rfl rfl rfl rfl K4 rfl (rfl))) ?_
                                  refine effStep 21 [] (by kernel_rfl) closedSt (hLeft [] (by kernel_rfl) .n) ?_
                                  refine .c ?_ .n
                                  refine effOne rfl (gNone rfl (fStoreL 6 rfl rfl rfl rfl K23 rfl (rfl))) ?_
                                  refine effStep 23 [] (by kernel_rfl) closedSt (hLeft [] (by kernel_rfl) .n) ?_
                                  refine .c ?_ .n
                                  refine effOne rfl (gNone rfl (fStoreL 6 rfl rfl rfl rfl K23 rfl (rfl))) ?_
                                  refine effDone closedSt (hLeft [] (by kernel_rfl) .n) (by kernel_rfl) ?_
                                  exact kMeetX (zq1 l r.1.1 r.1.2 yy dd k8 (c1 + sc * px / 1000) (c2 + sc * yy / 1000)) (hmt) rfl .n (.c rfl (.c rfl (.c rfl (.c rfl (.c rfl (.c rfl (.c rfl (.c rfl (.c rfl (.c rfl (.c rfl (.c rfl (.c rfl (.c rfl (.c rfl .n))))))))))))))) (.h rfl (.h rfl (.h rfl (.h rfl (.h rfl (.h rfl (.h rfl (.h rfl .r))))))))
                                · refine effOne rfl (gNone rfl (fV (yAdd rfl rfl (i221)) rfl)) ?_
                                  refine effStep 12 [] (by kernel_rfl) closedSt (hLeft [] (by kernel_rfl) .n) ?_
                                  refine .c ?_ .n
                                  refine effOne rfl (gNone rfl (fV (ySub rfl rfl (i217)) rfl)) ?_
                                  refine effStep 17 [] (by kernel_rfl) closedSt (hLeft [] (by kernel_rfl) .n) ?_
                                  refine .c ?_ .n
                                  refine effOne rfl (gNone rfl (fV (yCall rfl (.c rfl (.c rfl .n)) C48 (fun w hw => span4_any _ _ w)) rfl)) ?_
                                  refine effStep 19 [] (by kernel_rfl) closedSt (hLeft [] (by kernel_rfl) .n) ?_
                                  refine .c ?_ .n
                                  refine effOne rfl (gNone rfl (fStoreL 6 rfl rfl rfl rfl K4 rfl (rfl))) ?_
                                  refine effStep 21 [] (by kernel_rfl) closedSt (hLeft [] (by kernel_rfl) .n) ?_
                                  refine .c ?_ .n
                                  refine effOne rfl (gNone rfl (fStoreL 6 rfl rfl rfl rfl K23 rfl (rfl))) ?_
                                  refine effStep 23 [] (by kernel_rfl) closedSt (hLeft [] (by kernel_rfl) .n) ?_
                                  refine .c ?_ .n
                                  refine effOne rfl (gNone rfl (fStoreL 6 rfl rfl rfl rfl K23 rfl (rfl))) ?_
                                  refine effDone closedSt (hLeft [] (by kernel_rfl) .n) (by kernel_rfl) ?_
                                  exact kMeetX (zq1 l r.1.1 r.1.2 yy dd k8 (c1 + sc * px / 1000) (c2 + sc * yy / 1000)) (hmt) rfl .n (.c rfl (.c rfl (.c rfl (.c rfl (.c rfl (.c rfl (.c rfl (.c rfl (.c rfl (.c rfl (.c rfl (.c rfl (.c rfl (.c rfl (.c rfl .n))))))))))))))) (.h rfl (.h rfl (.h rfl (.h rfl (.h rfl (.h rfl (.h rfl (.h rfl .r))))))))
                            · refine effOne rfl (gNone rfl (fV (yAdd rfl rfl (i212)) rfl)) ?_
                              refine effStep 3 [] (by kernel_rfl) closedSt (hLeft [10, 14] (by kernel_rfl) (.c (fun _ _ hs => hs.ef.sub (.h rfl .n)) (.c (fun _ _ hs => hs.ef.sub (.h rfl .n)) .n))) ?_
                              refine .c ?_ .n
                              refine effOne rfl (gNone rfl (fV (ySub rfl rfl (i208)) rfl)) ?_
                              refine effStep 8 [] (by kernel_rfl) closedSt (hLeft [10, 14] (by kernel_rfl) (.c (fun _ _ hs => hs.ef.sub (.h rfl .n)) (.c (fun _ _ hs => hs.ef.sub (.h rfl .n)) .n))) ?_
                              refine .c ?_ .n
                              refine effOne rfl (gNone rfl (fV (yCall rfl (.c rfl (.c rfl .n)) C48 (fun w hw => span4_any _ _ w)) rfl)) ?_
                              refine effStep 11 [] (by kernel_rfl) closedSt (hLeft [10, 14] (by kernel_rfl) (.c (fun _ _ hs => hs.ef.sub (.h rfl .n)) (.c (fun _ _ hs => hs.ef.sub (.h rfl .n)) .n))) ?_
                              refine .c ?_ .n
                              refine effOne rfl (gNone rfl (eCallW 7 rfl rfl (.c rfl .n) C95 (fun w hw hb => draw4_any na nb a c l (k8 + 1 + 1) (5) w hb ⟨hw.blkAt 1 rfl, hl.eff0 hw⟩ hO (kl (n := 2) hk9 rfl) (by decide)) trSelf)) ?_
                              refine effStep 12 [15] (by kernel_rfl) closedSt (hLeft [14] (by kernel_rfl) (.c (fun _ _ hs => hs.ef.sub (.h rfl .n)) .n)) ?_
                              refine (.c ?_ (.c ?_ .n))
                              · refine effOne rfl (gNone rfl (fV (ySub rfl rfl (i217)) rfl)) ?_
                                refine effStep 15 [] (by kernel_rfl) closedSt (hLeft [14] (by kernel_rfl) (.c (fun _ _ hs => hs.ef.sub (.h rfl .n)) .n)) ?_
                                refine .c ?_ .n
                                refine effOne rfl (gNone rfl (eCallW 7 rfl rfl (.c rfl .n) C95 (fun w hw hb => draw4_any na nb a c l (k8 + 1 + 1 + 1) (5) w hb ⟨hw.blkAt 1 rfl, hl.eff0 hw⟩ hO (kl (n := 3) hk9 rfl) (by decide)) trSelf)) ?_
                                refine effStep 16 [] (by kernel_rfl) closedSt (hLeft [] (by kernel_rfl) .n) ?_
                                refine .c ?_ .n
                                refine effOne rfl (gNone rfl (fV (yAdd rfl rfl (i221)) rfl)) ?_
                                refine effStep 17 [] (by kernel_rfl) closedSt (hLeft [] (by kernel_rfl) .n) ?_
                                refine .c ?_ .n
                                refine effOne rfl (gNone rfl (fV (yCall rfl (.c rfl (.c rfl .n)) C48 (fun w hw => span4_any _ _ w)) rfl)) ?_
                                refine effStep 19 [] (by kernel_rfl) closedSt (hLeft [] (by kernel_rfl) .n) ?_
                                refine .c ?_ .n
                                refine effOne rfl (gNone rfl (fStoreL 6 rfl rfl rfl rfl K4 rfl (rfl))) ?_
                                refine effStep 21 [] (by kernel_rfl) closedSt (hLeft [] (by kernel_rfl) .n) ?_
                                refine .c ?_ .n
                                refine effOne rfl (gNone rfl (fStoreL 6 rfl rfl rfl rfl K23 rfl (rfl))) ?_
                                refine effStep 23 [] (by kernel_rfl) closedSt (hLeft [] (by kernel_rfl) .n) ?_
                                refine .c ?_ .n
                                refine effOne rfl (gNone rfl (fStoreL 6 rfl rfl rfl rfl K23 rfl (rfl))) ?_
                                refine effDone closedSt (hLeft [] (by kernel_rfl) .n) (by kernel_rfl) ?_
                                exact kMeetX (zq1 l r.1.1 r.1.2 yy dd k8 (c1 + sc * px / 1000) (c2 + sc * yy / 1000)) (hmt) rfl .n (.c rfl (.c rfl (.c rfl (.c rfl (.c rfl (.c rfl (.c rfl (.c rfl (.c rfl (.c rfl (.c rfl (.c rfl (.c rfl (.c rfl (.c rfl .n))))))))))))))) (.h rfl (.h rfl (.h rfl (.h rfl (.h rfl (.h rfl (.h rfl (.h rfl .r))))))))
                              · refine effOne rfl (gNone rfl (eCallW 7 rfl rfl (.c rfl .n) C95 (fun w hw hb => draw4_any na nb a c l (k8 + 1 + 1 + 1) (5) w hb ⟨hw.blkAt 1 rfl, hl.eff0 hw⟩ hO (kl (n := 3) hk9 rfl) (by decide)) trSelf)) ?_
                                refine effStep 12 [16] (by kernel_rfl) closedSt (hLeft [] (by kernel_rfl) .n) ?_
                                refine (.c ?_ (.c ?_ .n))
                                · refine effOne rfl (gNone rfl (fV (ySub rfl rfl (i217)) rfl)) ?_
                                  refine effStep 16 [] (by kernel_rfl) closedSt (hLeft [] (by kernel_rfl) .n) ?_
                                  refine .c ?_ .n
                                  refine effOne rfl (gNone rfl (fV (yAdd rfl rfl (i221)) rfl)) ?_
                                  refine effStep 17 [] (by kernel_rfl) closedSt (hLeft [] (by kernel_rfl) .n) ?_
                                  refine .c ?_ .n
                                  refine effOne rfl (gNone rfl (fV (yCall rfl (.c rfl (.c rfl .n)) C48 (fun w hw => span4_any _ _ w)) rfl)) ?_
                                  refine effStep 19 [] (by kernel_rfl) closedSt (hLeft [] (by kernel_rfl) .n) ?_
                                  refine .c ?_ .n
                                  refine effOne rfl (gNone rfl (fStoreL 6 rfl rfl rfl rfl K4 rfl (rfl))) ?_
                                  refine effStep 21 [] (by kernel_rfl) closedSt (hLeft [] (by kernel_rfl) .n) ?_
                                  refine .c ?_ .n
                                  refine effOne rfl (gNone rfl (fStoreL 6 rfl rfl rfl rfl K23 rfl (rfl))) ?_
                                  refine effStep 23 [] (by kernel_rfl) closedSt (hLeft [] (by kernel_rfl) .n) ?_
                                  refine .c ?_ .n
                                  refine effOne rfl (gNone rfl (fStoreL 6 rfl rfl rfl rfl K23 rfl (rfl))) ?_
                                  refine effDone closedSt (hLeft [] (by kernel_rfl) .n) (by kernel_rfl) ?_
                                  exact kMeetX (zq1 l r.1.1 r.1.2 yy dd k8 (c1 + sc * px / 1000) (c2 + sc * yy / 1000)) (hmt) rfl .n (.c rfl (.c rfl (.c rfl (.c rfl (.c rfl (.c rfl (.c rfl (.c rfl (.c rfl (.c rfl (.c rfl (.c rfl (.c rfl (.c rfl (.c rfl .n))))))))))))))) (.h rfl (.h rfl (.h rfl (.h rfl (.h rfl (.h rfl (.h rfl (.h rfl .r))))))))
                                · refine effOne rfl (gNone rfl (fV (yAdd rfl rfl (i221)) rfl)) ?_
                                  refine effStep 12 [] (by kernel_rfl) closedSt (hLeft [] (by kernel_rfl) .n) ?_
                                  refine .c ?_ .n
                                  refine effOne rfl (gNone rfl (fV (ySub rfl rfl (i217)) rfl)) ?_
                                  refine effStep 17 [] (by kernel_rfl) closedSt (hLeft [] (by kernel_rfl) .n) ?_
                                  refine .c ?_ .n
                                  refine effOne rfl (gNone rfl (fV (yCall rfl (.c rfl (.c rfl .n)) C48 (fun w hw => span4_any _ _ w)) rfl)) ?_
                                  refine effStep 19 [] (by kernel_rfl) closedSt (hLeft [] (by kernel_rfl) .n) ?_
                                  refine .c ?_ .n
                                  refine effOne rfl (gNone rfl (fStoreL 6 rfl rfl rfl rfl K4 rfl (rfl))) ?_
                                  refine effStep 21 [] (by kernel_rfl) closedSt (hLeft [] (by kernel_rfl) .n) ?_
                                  refine .c ?_ .n
                                  refine effOne rfl (gNone rfl (fStoreL 6 rfl rfl rfl rfl K23 rfl (rfl))) ?_
                                  refine effStep 23 [] (by kernel_rfl) closedSt (hLeft [] (by kernel_rfl) .n) ?_
                                  refine .c ?_ .n
                                  refine effOne rfl (gNone rfl (fStoreL 6 rfl rfl rfl rfl K23 rfl (rfl))) ?_
                                  refine effDone closedSt (hLeft [] (by kernel_rfl) .n) (by kernel_rfl) ?_
                                  exact kMeetX (zq1 l r.1.1 r.1.2 yy dd k8 (c1 + sc * px / 1000) (c2 + sc * yy / 1000)) (hmt) rfl .n (.c rfl (.c rfl (.c rfl (.c rfl (.c rfl (.c rfl (.c rfl (.c rfl (.c rfl (.c rfl (.c rfl (.c rfl (.c rfl (.c rfl (.c rfl .n))))))))))))))) (.h rfl (.h rfl (.h rfl (.h rfl (.h rfl (.h rfl (.h rfl (.h rfl .r))))))))
                        · refine kIfF rfl ?_
                          refine kSkip ?_
                          exact kMeetX ((sq0 r.1.1 r.1.2 yy dd, k8)) (⟨star4 bsc hcd (by omega) hpl2 (by omega) bdd _ rfl rfl fun h => (by cases h), by dsimp only; omega⟩) rfl .n (.c rfl (.c rfl (.c rfl (.c rfl (.c rfl (.c rfl (.c rfl (.c rfl (.c rfl (.c rfl (.c rfl (.c rfl (.c rfl (.c rfl (.c rfl .n))))))))))))))) (.h rfl (.h rfl (.h rfl (.h rfl (.h rfl (.h rfl (.h rfl (.h rfl .r))))))))
                      · obtain ⟨sv, kz⟩ := z
                        obtain ⟨hsv, hkz⟩ := hz
                        dsimp only at hsv hkz ⊢
                        have hl2 := hA.l2
                        have hl3 := hA.l3
                        refine kRegion rfl ?_
                        refine lV (yFieldAddr rfl F26_1) rfl rfl ?_
                        refine lV (yLoad1 rfl O24 (cOwn 5 rfl rfl)) rfl rfl ?_
                        refine lV (yLoadA (vs := [_, _, _, _, _, _, _, _, _]) rfl A58 (cOwn 6 rfl rfl)) rfl rfl ?_
                        refine lE rfl ?_
                        refine eBuildSlice (.c rfl .n) (fun w => BS24_1_0 w) fun n229 => ?_
                        refine lE rfl ?_
                        refine eAppend (gs := q1) ([(n229, _), (n3, _), (nb, _), (nE, _), (nP, _), (n4, _), (n16, _), (n26, _), (na, _)] ++ ((osL _ q2 ++ osL _ q3) ++ osL 78 g3)) [rowS sv] AP24 rfl rfl (.h rfl (.h rfl (.h rfl (.h rfl (.h rfl (.h rfl (.h rfl (.h rfl (.h rfl (by exact (show SubP ((((osL _ q2 ++ osL _ q3) ++ osL 78 g3) ++ osL _ q1)) ((((osL _ q1 ++ osL _ q2) ++ osL _ q3) ++ osL 78 g3)) from SubP.rot4 _ _ _ _))))))))))) hq1 rfl (rowsS_len [_]) (SlN.own 0 rfl rfl) (rowsS_one [_]) (by simp; omega) (by simp; omega) fun j1 hj1 => ?_
                        refine same (t := 230) (u := osV j1 (List.map rowS (st ++ [sv])).length) rfl (by rw [List.map_append]; rfl) ?_
                        refine lV (yMove rfl) rfl rfl ?_
                        refine lV (yMove rfl) rfl rfl ?_
                        refine lV (yMove rfl) rfl rfl ?_
                        refine lV (yBuild (.c rfl (.c rfl .n)) (fun w => B82_0_1 w)) rfl rfl ?_
                        refine lE rfl ?_
                        refine eBuildSlice (.c rfl .n) (fun w => BS80_1_0 w) fun n235 => ?_
                        refine lE rfl ?_
                        refine eAppend (gs := q2) ([(n235, _), (n229, _), (n3, _), (nb, _), (nE, _), (nP, _), (n4, _), (n16, _), (n26, _), (na, _)] ++ ((osL _ q3 ++ osL 78 g3) ++ osL 58 j1)) [rowE (c1 + sc * px / 1000, c2 + sc * yy / 1000)] AP80 rfl rfl (.h rfl (.h rfl (.h rfl (.h rfl (.h rfl (.h rfl (.h rfl (.h rfl (.h rfl (.h rfl (by exact (show SubP ((((osL _ q3 ++ osL 78 g3) ++ osL 58 j1) ++ osL _ q2)) ((((osL _ q2 ++ osL _ q3) ++ osL 78 g3) ++ osL 58 j1)) from SubP.rot4 _ _ _ _)))))))))))) hq2 rfl (rowsE_len [_]) (SlN.own 0 rfl rfl) (rowsE_one [_]) (by simp; omega) (by simp; omega) fun j2 hj2 => ?_
                        refine same (t := 236) (u := osV j2 (List.map rowE (sk ++ [(c1 + sc * px / 1000, c2 + sc * yy / 1000)])).length) rfl (by rw [List.map_append]; rfl) ?_
                        refine lV (yMove rfl) rfl rfl ?_
                        refine lV (yMove rfl) rfl rfl ?_
                        refine lE rfl ?_
                        refine eBuildSlice (.c rfl .n) (fun w => BS56_1_0 w) fun n239 => ?_
                        refine lE rfl ?_
                        refine eAppend (gs := q3) ([(n239, _), (n235, _), (n229, _), (n3, _), (nb, _), (nE, _), (nP, _), (n4, _), (n16, _), (n26, _), (na, _)] ++ ((osL 78 g3 ++ osL 58 j1) ++ osL 82 j2)) [rowX (px, yy)] AP56 rfl rfl (.h rfl (.h rfl (.h rfl (.h rfl (.h rfl (.h rfl (.h rfl (.h rfl (.h rfl (.h rfl (.h rfl (by exact (show SubP ((((osL 78 g3 ++ osL 58 j1) ++ osL 82 j2) ++ osL _ q3)) ((((osL _ q3 ++ osL 78 g3) ++ osL 58 j1) ++ osL 82 j2)) from SubP.rot4 _ _ _ _))))))))))))) hq3 rfl (by simp) (SlN.own 0 rfl rfl) (by simp; rfl) (by simp; omega) (by simp; omega) fun j3 hj3 => ?_
                        refine same (t := 240) (u := osV j3 (List.map rowX (im ++ [(px, yy)])).length) rfl (by rw [List.map_append]; rfl) ?_
                        refine lV (yFieldAddr rfl F26_1) rfl rfl ?_
                        refine lE rfl ?_
                        refine eStoreL 8 rfl rfl rfl rfl K24 rfl (rfl) ?_
                        refine lV (yAssign rfl) rfl rfl ?_
                        refine lV (yAssign rfl) rfl rfl ?_
                        refine lNil ?_
                        refine kInN ?_
                        refine kThen ?_
                        refine forgetP ([(n3, _), (nb, _), (nE, _), (nP, _), (n4, _), (n16, _), (na, _)] ++ (((osL 58 j1 ++ osL 82 j2) ++ osL 3 j3) ++ osL 78 g3)) (.k rfl (.k rfl (.k rfl (.h rfl (.h rfl (.h rfl (.h rfl (.h rfl (.h rfl (.k rfl (.h rfl (by exact (show SubP ((((osL 58 j1 ++ osL 82 j2) ++ osL 3 j3) ++ osL 78 g3)) ((((osL 78 g3 ++ osL 58 j1) ++ osL 82 j2) ++ osL 3 j3)) from SubP.rot4 _ _ _ _))))))))))))) ?_
                        have hround : v + 1 ≤ ps.length ∧ kz ≤ 115 + 8 * (v + 1) ∧ AllT sc (c1, c2) (st ++ [sv]) (im ++ [(px, yy)]) (sk ++ [(c1 + sc * px / 1000, c2 + sc * yy / 1000)]) (st ++ [sv]).length ∧ (st ++ [sv]).length ≤ v + 1 ∧ OS 9 j1 ((st ++ [sv]).map rowS) ∧ OS 2 j2 ((sk ++ [(c1 + sc * px / 1000, c2 + sc * yy / 1000)]).map rowE) ∧ OS 1 j3 ((im ++ [(px, yy)]).map rowX) :=
                          ⟨by omega, by omega, by rw [List.length_append]; exact hA.snoc hsv, by rw [List.length_append]; exact Nat.succ_le_succ hst, by rw [List.map_append]; exact hj1, by rw [List.map_append]; exact hj2, by rw [List.map_append]; exact hj3⟩
                        refine kRegion rfl ?_
                        refine lV (yAdd rfl rfl (by omega)) rfl rfl ?_
                        refine lV (yMove rfl) rfl rfl ?_
                        refine lNil ?_
                        exact kRoundX (v + 1, kz, (j1, j2, j3), st ++ [sv], im ++ [(px, yy)], sk ++ [(c1 + sc * px / 1000, c2 + sc * yy / 1000)]) (hround) (hmu1) rfl (.c rfl (.c rfl (.c rfl .n))) (.c rfl (.c rfl (.c rfl (.c rfl (.c rfl (.c rfl (.c rfl (.c rfl .n)))))))) (.h rfl (.h rfl (.h rfl (.h rfl (.h rfl (.h rfl (.h rfl (by exact SubP.r))))))))
                · refine kIfF rfl ?_
                  refine kExit ?_
                  refine kThenX ?_
                  refine kThenX ?_
                  refine kInX ?_
                  refine kThen ?_
                  refine kSeq ?_
                  refine forgetP ([(n16, _)] ++ ((osL _ q1 ++ osL _ q2) ++ osL _ q3)) (.k rfl (.k rfl (.k rfl (.k rfl (.k rfl (.h rfl (.k rfl (by exact (show SubP (((osL _ q1 ++ osL _ q2) ++ osL _ q3)) ((((osL _ q1 ++ osL _ q2) ++ osL _ q3) ++ osL 78 g3)) from (SubP.leftOf (by exact SubP.r))))))))))) ?_
                  obtain ⟨hT, hB⟩ := hA.truth (lh := (lo, hi')) (by omega) (fun d => by cases d <;> simp only [pd, Bool.false_eq_true, if_false, if_true] <;> omega) ⟨by dsimp only; omega, by dsimp only; omega, by dsimp only; omega, by dsimp only; omega⟩
                  obtain ⟨p, hp⟩ : ∃ p : Plt, p = ⟨(lo, hi'), st⟩ := ⟨_, rfl⟩
                  rw [← hp] at hT
                  have hst2 : st = p.st := by rw [hp]
                  have hlo : lo = p.sc.1 := by rw [hp]
                  have hhi : hi' = p.sc.2 := by rw [hp]
                  rw [hst2] at hB hq1
                  have hL6 : p.st.length ≤ 1000000 := by have := hT.ok.n; omega
                  have hil := hT.im_len
                  have hsl := hT.sk_len
                  obtain ⟨z, hz⟩ : ∃ z, z = scaleE p := ⟨_, rfl⟩
                  have ts := true_scale hT
                  rw [← hz] at ts
                  rw [List.length_map, List.length_map, List.length_map, hst2, hlo, hhi]
                  refine kRegion rfl ?_
                  refine lV (yLoadA (vs := [_, _, _]) rfl A26 (cOwn 0 rfl rfl)) rfl rfl ?_
                  refine lV (yCall rfl (.c rfl .n) C15 (fun w hw => scale_any (osA q1, osC q1) p w (OS.rowsE (f := rowS) star0 hq1 hw (.k rfl (by exact (show SubP (osL _ q1) (((osL _ q1 ++ osL _ q2) ++ osL _ q3)) from (SubP.leftOf (SubP.leftOf .r)))))))) rfl rfl ?_
                  refine same (t := 245) (u := .tuple [.agg [i64 z.1.1, i64 z.1.2].toArray, i64 0].toArray) rfl (by rw [← ts.1, ← hz]) ?_
                  refine lV (yMove rfl) rfl rfl ?_
                  refine lV (yExtract rfl rfl) rfl rfl ?_
                  refine lV (yExtract rfl rfl) rfl rfl ?_
                  refine lE rfl ?_
                  refine eAlloc Z23 fun n27 => ?_
                  refine lE rfl ?_
                  refine eStoreL 0 rfl rfl rfl rfl K23 rfl (rfl) ?_
                  refine lV (yAssign rfl) rfl rfl ?_
                  refine lNil ?_
                  refine kThen ?_
                  refine kSeq ?_
                  refine kRegion rfl ?_
                  refine lV (yLoadA (vs := [_, _, _]) rfl A26 (cOwn 1 rfl rfl)) rfl rfl ?_
                  refine lV (yCall rfl (.c rfl .n) C26 (fun w hw => clash_any (osA q1, osC q1) p w (OS.rowsE (f := rowS) star0 hq1 hw (.k rfl (.k rfl (by exact (show SubP (osL _ q1) (((osL _ q1 ++ osL _ q2) ++ osL _ q3)) from (SubP.leftOf (SubP.leftOf .r))))))))) rfl rfl ?_
                  refine same (t := 250) (u := .tuple [i64 0, i64 0].toArray) rfl (by rw [true_clash hT]) ?_
                  refine lV (yMove rfl) rfl rfl ?_
                  refine lV (yExtract rfl rfl) rfl rfl ?_
                  refine lV (yExtract rfl rfl) rfl rfl ?_
                  refine lV (yAssign rfl) rfl rfl ?_
                  refine lV (yAssign rfl) rfl rfl ?_
                  refine lNil ?_
                  refine kThen ?_
                  refine kSeq ?_
                  refine kSeq ?_
                  refine kRegion rfl ?_
                  refine lV (yMove rfl) rfl rfl ?_
                  refine lV (yNeq rfl rfl) rfl rfl ?_
                  refine knownN (t := 254) rfl (by simp) ?_
                  refine lV (yMove rfl) rfl rfl ?_
                  refine lGY rfl rfl rfl (oV (yMove rfl) rfl ?_)
                  refine lGY rfl rfl rfl (oV (yLoadA (vs := [_, _]) rfl A23 (cOwn 0 rfl rfl)) rfl ?_)
                  refine lGY rfl rfl rfl (oV (yCall rfl (.c rfl (.c rfl .n)) C51 (fun w hw => inside4_any _ _ _ w)) rfl ?_)
                  refine knownB (t := 258) (c := true) rfl (decide_eq_true ts.2) ?_
                  refine lGY rfl rfl rfl (oV (yNot rfl) rfl ?_)
                  refine lV (yPickF rfl rfl) rfl rfl ?_
                  refine lV (yMove rfl) rfl rfl ?_
                  refine lGY rfl rfl rfl (oV (yMove rfl) rfl ?_)
                  refine lGY rfl rfl rfl (oV (yNeq rfl rfl) rfl ?_)
                  refine knownN (t := 263) rfl (by simp) ?_
                  refine lV (yPickF rfl rfl) rfl rfl ?_
                  refine lV (yMove rfl) rfl rfl ?_
                  refine lGY rfl rfl rfl (oV (yMove rfl) rfl ?_)
                  refine lGY rfl rfl rfl (oV (yNeq rfl rfl) rfl ?_)
                  refine knownN (t := 267) rfl (by simp) ?_
                  refine lV (yPickF rfl rfl) rfl rfl ?_
                  refine lNil ?_
                  refine kThen ?_
                  refine kIfF rfl ?_
                  refine kSkip ?_
                  refine kThen ?_
                  refine kSeq ?_
                  obtain ⟨q, hq0⟩ : ∃ q, q = zeroE p := ⟨_, rfl⟩
                  refine kRegion rfl ?_
                  refine lV (yLoadA (vs := [_, _, _]) rfl A26 (cOwn 1 rfl rfl)) rfl rfl ?_
                  refine lV (yCall rfl (.c rfl .n) C17 (fun w hw => zero_any (osA q1, osC q1) p w (OS.rowsE (f := rowS) star0 hq1 hw (.k rfl (.k rfl (by exact (show SubP (osL _ q1) (((osL _ q1 ++ osL _ q2) ++ osL _ q3)) from (SubP.leftOf (SubP.leftOf .r))))))))) rfl rfl ?_
                  refine same (t := 271) (u := .tuple [.agg [i64 q.1.1, i64 q.1.2].toArray, .agg [i64 q.2.1.1, i64 q.2.1.2].toArray, i64 q.2.2].toArray) rfl (by rw [← hq0]) ?_
                  refine lV (yMove rfl) rfl rfl ?_
                  refine lV (yExtract rfl rfl) rfl rfl ?_
                  refine lV (yExtract rfl rfl) rfl rfl ?_
                  refine lV (yExtract rfl rfl) rfl rfl ?_
                  refine lE rfl ?_
                  refine eAlloc Z23 fun n31 => ?_
                  refine lE rfl ?_
                  refine eAlloc Z23 fun n32 => ?_
                  refine lE rfl ?_
                  refine eStoreL 1 rfl rfl rfl rfl K23 rfl (rfl) ?_
                  refine lE rfl ?_
                  refine eStoreL 0 rfl rfl rfl rfl K23 rfl (rfl) ?_
                  refine lV (yAssign rfl) rfl rfl ?_
                  refine lNil ?_
                  refine kThen ?_
                  refine kSeq ?_
                  refine kSeq ?_
                  refine kRegion rfl ?_
                  refine lV (yMove rfl) rfl rfl ?_
                  refine lV (yNeq rfl rfl) rfl rfl ?_
                  refine split (t := 276) rfl (fun h276 => ?_) (fun h276 => ?_)
                  · have hk : knownP p = 0 := Classical.byContradiction fun hk => h276 (by rw [hq0]; exact (true_zero hT hk).1)
                    refine lNil ?_
                    refine kThen ?_
                    refine kIfT rfl ?_
                    refine kSeq ?_
                    refine kRegion rfl ?_
                    refine lV (yMove rfl) rfl rfl ?_
                    refine lV (yEql rfl rfl) rfl rfl ?_
                    refine known (t := 278) rfl (by rw [hq0, true_doubt hT hk]) ?_
                    refine lV (yMove rfl) rfl rfl ?_
                    refine lGY rfl rfl rfl (oV (yCall rfl .n C46 (fun w hw => alive4_any w)) rfl ?_)
                    refine lV (yPickT rfl rfl) rfl rfl ?_
                    refine lV (yAssign rfl) rfl rfl ?_
                    refine lNil ?_
                    refine kThen ?_
                    refine kRet ?_
                    refine kThenR ?_
                    refine fRet rfl (.t rfl .n) (endRet ?_)
                    rfl
                  · have hk : knownP p ≠ 0 := fun hk => h276 (by rw [hq0, true_doubt hT hk]; decide)
                    have tz := true_zero hT hk
                    rw [← hq0] at tz
                    refine lNil ?_
                    refine kThen ?_
                    refine kIfF rfl ?_
                    refine kSkip ?_
                    refine kThen ?_
                    refine kSeq ?_
                    refine kSeq ?_
                    refine kRegion rfl ?_
                    refine lV (yMove rfl) rfl rfl ?_
                    refine lV (yLoadA (vs := [_, _]) rfl A23 (cOwn 1 rfl rfl)) rfl rfl ?_
                    refine lV (yCall rfl (.c rfl (.c rfl .n)) C51 (fun w hw => inside4_any _ _ _ w)) rfl rfl ?_
                    refine knownB (t := 284) (c := true) rfl (decide_eq_true tz.2.1) ?_
                    refine lV (yNot rfl) rfl rfl ?_
                    refine lV (yMove rfl) rfl rfl ?_
                    refine lGY rfl rfl rfl (oV (yMove rfl) rfl ?_)
                    refine lGY rfl rfl rfl (oV (yLoadA (vs := [_, _]) rfl A23 (cOwn 0 rfl rfl)) rfl ?_)
                    refine lGY rfl rfl rfl (oV (yCall rfl (.c rfl (.c rfl .n)) C51 (fun w hw => inside4_any _ _ _ w)) rfl ?_)
                    refine knownB (t := 289) (c := true) rfl (decide_eq_true tz.2.2) ?_
                    refine lGY rfl rfl rfl (oV (yNot rfl) rfl ?_)
                    refine lV (yPickF rfl rfl) rfl rfl ?_
                    refine lNil ?_
                    refine kThen ?_
                    refine kIfF rfl ?_
                    refine kSkip ?_
                    refine kThen ?_
                    refine kSeq ?_
                    refine kSeq ?_
                    refine kRegion rfl ?_
                    refine lV (yMove rfl) rfl rfl ?_
                    refine lV (yLen rfl S80) rfl rfl ?_
                    refine lV (yMove rfl) rfl rfl ?_
                    refine lNil ?_
                    refine kThen ?_
                    refine kBlock ?_
                    refine kLoopX (ι := Nat) (fun i => i ≤ sk.length) (fun i => [(294, i64 (i : Nat))]) [(16, _), (17, _), (18, _), (292, _), (293, _)] (fun i => []) (fun i => (((osL 58 q1 ++ osL 82 q2) ++ osL 3 q3))) [(n16, _)] (fun i => sk.length - i) 0 (Nat.zero_le _) rfl (.c rfl .n) (.c rfl (.c rfl (.c rfl (.c rfl (.c rfl .n))))) (.k rfl (.k rfl (.k rfl (.h rfl (by exact SubP.r))))) ?_
                    rintro i hi
                    refine kSeq ?_
                    refine kRegion rfl ?_
                    refine lV (yLss rfl rfl) rfl rfl ?_
                    refine lNil ?_
                    refine kThen ?_
                    refine kSeq ?_
                    refine split (t := 295) rfl (fun h295 => ?_) (fun h295 => ?_)
                    · refine kIfT rfl ?_
                      refine kSkip ?_
                      refine kThen ?_
                      refine kSeq ?_
                      refine kBlock ?_
                      refine kSeq ?_
                      have hi1 : i + 1 ≤ sk.length := by omega
                      have hi2 : sk.length - (i + 1) < sk.length - i := by omega
                      have hi3 : -9223372036854775808 ≤ (i : Int) + 1 ∧ (i : Int) + 1 ≤ 9223372036854775807 := by omega
                      have hil2 : i < p.st.length := by omega
                      have hil3 : i < im.length := by omega
                      have hb1 := hB i hil2 false
                      have hb2 := hB i hil2 true
                      simp only [pd, Bool.false_eq_true, if_false, if_true] at hb1 hb2
                      have tst := true_star hT hk hil2
                      have tf := true_find hT hk hil2 (fun d => by have := hB i hil2 d; omega)
                      obtain ⟨e, he⟩ : ∃ e, e = sk.getD i (0, 0) := ⟨_, rfl⟩
                      obtain ⟨m, hm⟩ : ∃ m, m = im.getD i (0, 0) := ⟨_, rfl⟩
                      rw [← he] at tst tf hb1 hb2
                      rw [← hm] at tf
                      obtain ⟨r, hr⟩ : ∃ r, r = starE p (i : Nat) := ⟨_, rfl⟩
                      obtain ⟨fr, hfr⟩ : ∃ fr, fr = findE p e.1 e.2 := ⟨_, rfl⟩
                      rw [← hr] at tst
                      rw [← hfr] at tf
                      refine kRegion rfl ?_
                      refine lV (yMove rfl) rfl rfl ?_
                      refine lV (yIndexS  rfl rfl S80 ((fun w hw => OS.rowsE (f := rowE) (0, 0) hq2 hw (.k rfl (by exact (show SubP (osL _ q2) (((osL _ q1 ++ osL _ q2) ++ osL _ q3)) from (SubP.leftOf SubP.tail)))))) ((by omega))) rfl rfl ?_
                      refine lV (yLoadA (vs := [_, _]) rfl A82 (cSl0 ((fun w hw => OS.rowsE (f := rowE) (0, 0) hq2 hw (.k rfl (by exact (show SubP (osL _ q2) (((osL _ q1 ++ osL _ q2) ++ osL _ q3)) from (SubP.leftOf SubP.tail)))))) ((by omega)) rfl)) rfl rfl ?_
                      refine same (t := 298) (u := .agg [i64 e.1, i64 e.2].toArray) rfl (by rw [he]) ?_
                      refine lE rfl ?_
                      refine eAlloc Z82 fun n35 => ?_
                      refine lV (yAssign rfl) rfl rfl ?_
                      refine lE rfl ?_
                      refine eStoreL 0 rfl rfl rfl rfl K82 rfl (rfl) ?_
                      refine lNil ?_
                      refine kThen ?_
                      refine kSeq ?_
                      refine kRegion rfl ?_
                      refine lV (yLoadA (vs := [_, _, _]) rfl A26 (cOwn 1 rfl rfl)) rfl rfl ?_
                      refine lV (yMove rfl) rfl rfl ?_
                      refine lV (yCall rfl (.c rfl (.c rfl .n)) C19 (fun w hw => star_any (osA q1, osC q1) p (i : Nat) w (OS.rowsE (f := rowS) star0 hq1 hw (.k rfl (.k rfl (by exact (show SubP (osL _ q1) (((osL _ q1 ++ osL _ q2) ++ osL _ q3)) from (SubP.leftOf (SubP.leftOf .r))))))) hL6)) rfl rfl ?_
                      refine same (t := 302) (u := .tuple [.agg [i64 r.1.1, i64 r.1.2].toArray, .agg [i64 r.2.1.1, i64 r.2.1.2].toArray, i64 r.2.2].toArray) rfl (by rw [← hr]) ?_
                      refine lV (yMove rfl) rfl rfl ?_
                      refine lV (yExtract rfl rfl) rfl rfl ?_
                      refine lV (yExtract rfl rfl) rfl rfl ?_
                      refine lV (yExtract rfl rfl) rfl rfl ?_
                      refine lE rfl ?_
                      refine eAlloc Z23 fun n36 => ?_
                      refine lE rfl ?_
                      refine eAlloc Z23 fun n37 => ?_
                      refine lE rfl ?_
                      refine eStoreL 1 rfl rfl rfl rfl K23 rfl (rfl) ?_
                      refine lE rfl ?_
                      refine eStoreL 0 rfl rfl rfl rfl K23 rfl (rfl) ?_
                      refine lV (yAssign rfl) rfl rfl ?_
                      refine lNil ?_
                      refine kThen ?_
                      refine kSeq ?_
                      refine kRegion rfl ?_
                      refine lV (yLoadA (vs := [_, _, _]) rfl A26 (cOwn 3 rfl rfl)) rfl rfl ?_
                      refine lV (yIndexAr rfl rfl R82 (by omega) (by omega)) rfl rfl ?_
                      refine lV (yLoad1 rfl O3 (cOwn 2 rfl rfl)) rfl rfl ?_
                      refine lV (yIndexAr rfl rfl R82 (by omega) (by omega)) rfl rfl ?_
                      refine lV (yLoad1 rfl O3 (cOwn 2 rfl rfl)) rfl rfl ?_
                      refine lV (yCall rfl (.c rfl (.c rfl (.c rfl .n))) C24 (fun w hw => find_any (osA q1, osC q1) p e.1 e.2 w (OS.rowsE (f := rowS) star0 hq1 hw (.k rfl (.k rfl (.k rfl (.k rfl (by exact (show SubP (osL _ q1) (((osL _ q1 ++ osL _ q2) ++ osL _ q3)) from (SubP.leftOf (SubP.leftOf .r))))))))))) rfl rfl ?_
                      refine same (t := 312) (u := .tuple [.agg [i64 fr.1.1, i64 fr.1.2].toArray, .agg [i64 fr.2.1.1, i64 fr.2.1.2].toArray, i64 fr.2.2].toArray) rfl (by rw [← hfr]) ?_
                      refine lV (yMove rfl) rfl rfl ?_
                      refine lV (yExtract rfl rfl) rfl rfl ?_
                      refine lV (yExtract rfl rfl) rfl rfl ?_
                      refine lV (yExtract rfl rfl) rfl rfl ?_
                      refine lE rfl ?_
                      refine eAlloc Z23 fun n39 => ?_
                      refine lE rfl ?_
                      refine eAlloc Z23 fun n40 => ?_
                      refine lE rfl ?_
                      refine eStoreL 1 rfl rfl rfl rfl K23 rfl (rfl) ?_
                      refine lE rfl ?_
                      refine eStoreL 0 rfl rfl rfl rfl K23 rfl (rfl) ?_
                      refine lV (yAssign rfl) rfl rfl ?_
                      refine lNil ?_
                      refine kThen ?_
                      refine kSeq ?_
                      refine kDrawE [(4, none), (5, none), (6, none), (11, none), (12, none), (13, none), (23, none), (24, none), (25, none), (26, none)] [] [0, 1, 2, 3, 4, 5, 6, 7, 8, 9, 10, 11, 12, 13, 14, 15, 16, 17, 18, 19, 20, 21, 22, 23, 24, 25, 26, 27, 28] 0 hMix (by kernel_rfl) ?_
                      refine .run rfl (yMove rfl) rfl rfl ?_
                      refine .run rfl (yvFalse (yNeq rfl rfl) (fun h => h tst.1)) rfl rfl ?_
                      refine .run rfl (yMove rfl) rfl rfl ?_
                      refine .runG rfl (yIndexAr rfl rfl R82 (by omega) (by omega)) rfl rfl rfl rfl ?_
                      refine .runG rfl (yLoad1 rfl O3 (cOwn 4 rfl rfl)) rfl rfl rfl rfl ?_
                      refine .runG rfl (yLoadA (vs := [_, _]) rfl A23 (cOwn 3 rfl rfl)) rfl rfl rfl rfl ?_
                      refine .runG rfl (yvIs (c := true) (yCall rfl (.c rfl (.c rfl .n)) C51 (fun w hw => inside4_any _ _ _ w)) (decide_eq_true tst.2.1)) rfl rfl rfl rfl ?_
                      refine .runG rfl (yNot rfl) rfl rfl rfl rfl ?_
                      refine .run rfl (yPickF rfl rfl) rfl rfl ?_
                      refine .run rfl (yMove rfl) rfl rfl ?_
                      refine .runG rfl (yIndexAr rfl rfl R82 (by omega) (by omega)) rfl rfl rfl rfl ?_
                      refine .runG rfl (yLoad1 rfl O3 (cOwn 4 rfl rfl)) rfl rfl rfl rfl ?_
                      refine .runG rfl (yLoadA (vs := [_, _]) rfl A23 (cOwn 2 rfl rfl)) rfl rfl rfl rfl ?_
                      refine .runG rfl (yvIs (c := true) (yCall rfl (.c rfl (.c rfl .n)) C51 (fun w hw => inside4_any _ _ _ w)) (decide_eq_true tst.2.2)) rfl rfl rfl rfl ?_
                      refine .runG rfl (yNot rfl) rfl rfl rfl rfl ?_
                      refine .run rfl (yPickF rfl rfl) rfl rfl ?_
                      refine .run rfl (yMove rfl) rfl rfl ?_
                      refine .runG rfl (yMove rfl) rfl rfl rfl rfl ?_
                      refine .runG rfl (yvFalse (yNeq rfl rfl) (fun h => h tf.1)) rfl rfl rfl rfl ?_
                      refine .run rfl (yPickF rfl rfl) rfl rfl ?_
                      refine .run rfl (yMove rfl) rfl rfl ?_
                      refine .runG rfl (yMove rfl) rfl rfl rfl rfl ?_
                      refine .runG rfl (yMove rfl) rfl rfl rfl rfl ?_
                      refine .runG rfl (yIndexS  rfl rfl S56 ((fun w hw => OS.rowsE (f := rowX) (0, 0) hq3 hw (.k rfl (.k rfl (.k rfl (.k rfl (.k rfl (.k rfl (by exact (show SubP (osL _ q3) (((osL _ q1 ++ osL _ q2) ++ osL _ q3)) from SubP.tail)))))))))) (hil3)) rfl rfl rfl rfl ?_
                      refine .runG rfl (yvSame (u := i64 m.1) (yLoad1 rfl O3 (cSl0 ((fun w hw => OS.rowsE (f := rowX) (0, 0) hq3 hw (.k rfl (.k rfl (.k rfl (.k rfl (.k rfl (.k rfl (by exact (show SubP (osL _ q3) (((osL _ q1 ++ osL _ q2) ++ osL _ q3)) from SubP.tail)))))))))) (hil3) rfl)) (by rw [hm])) rfl rfl rfl rfl ?_
                      refine .runG rfl (yLoadA (vs := [_, _]) rfl A23 (cOwn 1 rfl rfl)) rfl rfl rfl rfl ?_
                      refine .runG rfl (yvIs (c := true) (yCall rfl (.c rfl (.c rfl .n)) C51 (fun w hw => inside4_any _ _ _ w)) (decide_eq_true tf.2.1)) rfl rfl rfl rfl ?_
                      refine .runG rfl (yNot rfl) rfl rfl rfl rfl ?_
                      refine .run rfl (yPickF rfl rfl) rfl rfl ?_
                      refine .done ?_
                      refine effDone closedSt (hLeft [4, 5, 6, 11, 12, 13, 23, 24, 25, 26] (by kernel_rfl) (.c (fun _ _ hs => hs.ef) (.c (fun _ _ hs => hs.ef) (.c (fun _ _ hs => hs.ef) (.c (fun _ _ hs => hs.ef) (.c (fun _ _ hs => hs.ef) (.c (fun _ _ hs => hs.ef) (.c (fun _ _ hs => hs.ef) (.c (fun _ _ hs => hs.ef) (.c (fun _ _ hs => hs.ef) (.c (fun _ _ hs => hs.ef) .n))))))))))) (by kernel_rfl) ?_
                      refine kThen ?_
                      refine kIfF rfl ?_
                      refine kSkip ?_
                      refine kInN ?_
                      refine kThen ?_
                      refine kRegion rfl ?_
                      refine lV (yArith rfl rfl ((.inl ⟨rfl, IntWalk.i64_in _ hi3⟩))) rfl rfl ?_
                      refine lV (yMove rfl) rfl rfl ?_
                      refine lNil ?_
                      exact kRoundX (i + 1) (hi1) (hi2) rfl (.c rfl .n) (.c rfl (.c rfl (.c rfl (.c rfl (.c rfl .n))))) (.k rfl (.k rfl (.k rfl (.k rfl (.k rfl (.h rfl (by exact SubP.r)))))))
                    · refine kIfF rfl ?_
                      refine kExit ?_
                      refine kThenX ?_
                      refine kThenX ?_
                      refine kInX ?_
                      refine kThen ?_
                      refine kSeq ?_
                      refine kRegion rfl ?_
                      refine lV (yCall rfl .n C46 (fun w hw => alive4_any w)) rfl rfl ?_
                      refine lV (yAssign rfl) rfl rfl ?_
                      refine lNil ?_
                      refine kThen ?_
                      refine kRet ?_
                      refine fRet rfl (.t rfl .n) (endRet ?_)
                      rfl
end Go.Proofs.Ytlcdohhhhlhpmaa
