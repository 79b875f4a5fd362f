/-
  Walks: does a set of plates serve a place.
-/
import Derived.Test.YtdpeifbejeflhaaVf
import Derived.Test.YtdpeifbejeflhaaVg
namespace Go.Proofs.Ytdpeifbejeflhaa
open ZW

def daysTo (f : Fld) (s : Nat) : Nat → List Int
  | 0 => []
  | k + 1 => if s.testBit k = true then daysTo f s k ++ [(f.ps.getD k sky0).day] else daysTo f s k
theorem daysTo_mem (f : Fld) (s : Nat) (d : Int) : ∀ k, d ∈ daysTo f s k ↔ ∃ i, i < k ∧ s.testBit i = true ∧ (f.ps.getD i sky0).day = d
  | 0 => by simp [daysTo]
  | k + 1 => by
    have ih := daysTo_mem f s d k
    unfold daysTo
    constructor
    · intro h
      split at h
      · rename_i hk
        rcases List.mem_append.1 h with h | h
        · obtain ⟨i, h1, h2⟩ := ih.1 h; exact ⟨i, by omega, h2⟩
        · exact ⟨k, by omega, hk, (List.mem_singleton.1 h).symm⟩
      · obtain ⟨i, h1, h2⟩ := ih.1 h; exact ⟨i, by omega, h2⟩
    · rintro ⟨i, h1, h2, h3⟩
      by_cases hik : i = k
      · subst hik; rw [if_pos h2]; exact List.mem_append.2 (.inr (List.mem_singleton.2 h3.symm))
      · have h4 := ih.2 ⟨i, by omega, h2, h3⟩
        split
        · simp [h4]
        · exact h4
theorem daysTo_len (f : Fld) (s : Nat) : ∀ k, (daysTo f s k).length ≤ k
  | 0 => by simp [daysTo]
  | k + 1 => by
    have := daysTo_len f s k
    unfold daysTo; split
    · simp; omega
    · omega
def servB (f : Fld) (s : Nat) : Bool := decide (f.times ≤ cntG f.gap (srtI (daysTo f s f.ps.length)))
theorem own_b {sz : Nat} {g : Own} {es : List (List Value)} (h : OS sz g es) (hn : es ≠ []) : ∃ n c l, g = .b n c l := by
  cases g with
  | e a => exact absurd h.at_ hn
  | b n c l => exact ⟨n, c, l, rfl⟩
theorem rowI_flat : ∀ (l : List Int), (l.map rowI).flatten = l.map i64
  | [] => rfl
  | x :: r => by rw [List.map_cons, List.flatten_cons, rowI_flat r]; rfl
theorem own_ints {n c : Nat} {v : List Value} {l : List Int} (h : OS 1 (.b n c v) (l.map rowI)) : ∃ rest, v = l.map i64 ++ rest := by
  have hat := h.at_
  simp only at hat
  obtain ⟨_, _, _, h4⟩ := hat
  refine ⟨v.drop l.length, ?_⟩
  rw [rowI_flat, List.length_map, Nat.mul_one] at h4
  rw [← h4, List.take_append_drop]
/-- What is counted of some days ahead. -/
abbrev cntTo (g : Int) (l : List Int) (i : Nat) : Int × Int := (l.take i).foldl (stepG g) (0, 0)
theorem cntTo_succ (g : Int) (l : List Int) {i : Nat} (hi : i < l.length) : cntTo g l (i + 1) = stepG g (cntTo g l i) (l.getD i 0) := by
  unfold cntTo
  rw [List.take_succ_eq_append_getElem hi, List.foldl_append, List.getElem_eq_getD 0]; rfl
theorem cntTo_bd (g : Int) (l : List Int) (hl : ∀ d ∈ l, 0 ≤ d ∧ d ≤ 65536) : ∀ i, i ≤ l.length → (0 ≤ (cntTo g l i).1 ∧ (cntTo g l i).1 ≤ i) ∧ 0 ≤ (cntTo g l i).2 ∧ (cntTo g l i).2 ≤ 65536
  | 0, _ => by simp [cntTo]
  | i + 1, h => by
    have ih := cntTo_bd g l hl i (by omega)
    have hd := hl _ (getD_mem (i := i) (by omega) 0)
    rw [cntTo_succ g l (by omega)]
    unfold stepG
    split
    · dsimp only; omega
    · omega
section
variable (y : Option Addr × Nat) (f : Fld) (U nm nf : Nat)
set_option maxRecDepth 100000 in
theorem take_any {W w : World} {X : Heap} (n8 n9 n2 : Nat) (n last d : Int) (hE : Eff W [] ([(n9, blk [i64 last] 3), (n8, blk [i64 n] 3), (n2, blk [.pointer (some ⟨nf, 0, none⟩)] 69)] ++ X) w) (hf : W.heap[nf]? = some (blk (fieldC y f U nm) 81))
    (hn : 0 ≤ n ∧ n ≤ 1000) (hla : 0 ≤ last ∧ last ≤ 65536) (hd : 0 ≤ d ∧ d ≤ 65536) : Calls Try.prog 55 [i64 d, .pointer (some ⟨n8, 0, none⟩), .pointer (some ⟨n9, 0, none⟩), .pointer (some ⟨n2, 0, none⟩)].toArray w
    (RetE W [] (fun _ : Unit => True) (fun _ => .tuple #[]) (fun _ => [(n9, blk [i64 (stepG f.gap (n, last) d).2] 3), (n8, blk [i64 (stepG f.gap (n, last) d).1] 3), (n2, blk [.pointer (some ⟨nf, 0, none⟩)] 69)] ++ X)) := by
  have e : stepG f.gap (n, last) d = if n = 0 ∨ d - last ≥ f.gap then (n + 1, d) else (n, last) := rfl
  refine fEnterE hE Try.func55 rfl Try.ntmps55 rfl ?_
  refine kSeq ?_
  by_cases h7 : n = 0
  · refine kDrawE [(0, none)] [] [0, 1, 2, 3, 4, 5, 6, 7, 8, 9, 10, 11, 12] 0 hMix (by kernel_rfl) ?_
    refine .run rfl (yLoad1 rfl O3 (cOwn 1 rfl rfl)) rfl rfl ?_
    refine .run rfl (yvTrue (yEql rfl rfl) (h7)) rfl rfl ?_
    refine .run rfl (yMove rfl) rfl rfl ?_
    refine .skip rfl rfl rfl rfl rfl rfl ?_
    refine .skip rfl rfl rfl rfl rfl rfl ?_
    refine .skip rfl rfl rfl rfl rfl rfl ?_
    refine .skip rfl rfl rfl rfl rfl rfl ?_
    refine .skip rfl rfl rfl rfl rfl rfl ?_
    refine .skip rfl rfl rfl rfl rfl rfl ?_
    refine .skip rfl rfl rfl rfl rfl rfl ?_
    refine .skip rfl rfl rfl rfl rfl rfl ?_
    refine .skip rfl rfl rfl rfl rfl rfl ?_
    refine .run rfl (yPickT rfl rfl) rfl rfl ?_
    refine .done ?_
    refine effDone closedSt (hLeft [0] (by kernel_rfl) (.c (fun _ _ hs => hs.ef) .n)) (by kernel_rfl) ?_
    refine kThen ?_
    refine kIfT rfl ?_
    refine kRegion rfl ?_
    refine lV (yLoad1 rfl O3 (cOwn 1 rfl rfl)) rfl rfl ?_
    refine lV (yAdd rfl rfl (by omega)) rfl rfl ?_
    refine lV (yMove rfl) rfl rfl ?_
    refine lE rfl ?_
    refine eStoreL 1 rfl rfl rfl rfl K3 rfl (rfl) ?_
    refine lE rfl ?_
    refine eStoreL 0 rfl rfl rfl rfl K3 rfl (rfl) ?_
    refine lNil ?_
    refine fEnd rfl .n ?_
    rw [e, if_pos (.inl h7)]
    exact fun w' hw' => ⟨(), trivial, rfl, hw'⟩
  · by_cases h17 : d - last ≥ f.gap
    · refine kDrawE [(0, none), (4, none), (6, none), (10, none)] [] [0, 1, 2, 3, 4, 5, 6, 7, 8, 9, 10, 11, 12] 0 hMix (by kernel_rfl) ?_
      refine .run rfl (yLoad1 rfl O3 (cOwn 1 rfl rfl)) rfl rfl ?_
      refine .run rfl (yvFalse (yEql rfl rfl) (h7)) rfl rfl ?_
      refine .run rfl (yMove rfl) rfl rfl ?_
      refine .runG rfl (yMove rfl) rfl rfl rfl rfl ?_
      refine .runG rfl (yLoad1 rfl O3 (cOwn 0 rfl rfl)) rfl rfl rfl rfl ?_
      refine .runG rfl (ySub rfl rfl (by omega)) rfl rfl rfl rfl ?_
      refine .runG rfl (yLoad1 rfl O69 (cOwn 2 rfl rfl)) rfl rfl rfl rfl ?_
      refine .runG rfl (yNilCheckP rfl) rfl rfl rfl rfl ?_
      refine .runG rfl (yFieldAddr rfl F81_0) rfl rfl rfl rfl ?_
      refine .runG rfl (yFieldAddr rfl F30_6) rfl rfl rfl rfl ?_
      refine .runG rfl (yLoad1 rfl O3 (cOldB (hf) rfl)) rfl rfl rfl rfl ?_
      refine .runG rfl (yvTrue (yGeq rfl rfl) (h17)) rfl rfl rfl rfl ?_
      refine .run rfl (yPickF rfl rfl) rfl rfl ?_
      refine .done ?_
      refine effDone closedSt (hLeft [0, 4, 6, 10] (by kernel_rfl) (.c (fun _ _ hs => hs.ef) (.c (fun _ _ hs => hs.ef) (.c (fun _ _ hs => hs.ef) (.c (fun _ _ hs => hs.ef) .n))))) (by kernel_rfl) ?_
      refine kThen ?_
      refine kIfT rfl ?_
      refine kRegion rfl ?_
      refine lV (yLoad1 rfl O3 (cOwn 1 rfl rfl)) rfl rfl ?_
      refine lV (yAdd rfl rfl (by omega)) rfl rfl ?_
      refine lV (yMove rfl) rfl rfl ?_
      refine lE rfl ?_
      refine eStoreL 1 rfl rfl rfl rfl K3 rfl (rfl) ?_
      refine lE rfl ?_
      refine eStoreL 0 rfl rfl rfl rfl K3 rfl (rfl) ?_
      refine lNil ?_
      refine fEnd rfl .n ?_
      rw [e, if_pos (.inr h17)]
      exact fun w' hw' => ⟨(), trivial, rfl, hw'⟩
    · refine kDrawE [(0, none), (4, none), (6, none), (10, none)] [] [0, 1, 2, 3, 4, 5, 6, 7, 8, 9, 10, 11, 12] 0 hMix (by kernel_rfl) ?_
      refine .run rfl (yLoad1 rfl O3 (cOwn 1 rfl rfl)) rfl rfl ?_
      refine .run rfl (yvFalse (yEql rfl rfl) (h7)) rfl rfl ?_
      refine .run rfl (yMove rfl) rfl rfl ?_
      refine .runG rfl (yMove rfl) rfl rfl rfl rfl ?_
      refine .runG rfl (yLoad1 rfl O3 (cOwn 0 rfl rfl)) rfl rfl rfl rfl ?_
      refine .runG rfl (ySub rfl rfl (by omega)) rfl rfl rfl rfl ?_
      refine .runG rfl (yLoad1 rfl O69 (cOwn 2 rfl rfl)) rfl rfl rfl rfl ?_
      refine .runG rfl (yNilCheckP rfl) rfl rfl rfl rfl ?_
      refine .runG rfl (yFieldAddr rfl F81_0) rfl rfl rfl rfl ?_
      refine .runG rfl (yFieldAddr rfl F30_6) rfl rfl rfl rfl ?_
      refine .runG rfl (yLoad1 rfl O3 (cOldB (hf) rfl)) rfl rfl rfl rfl ?_
      refine .runG rfl (yvFalse (yGeq rfl rfl) (h17)) rfl rfl rfl rfl ?_
      refine .run rfl (yPickF rfl rfl) rfl rfl ?_
      refine .done ?_
      refine effDone closedSt (hLeft [0, 4, 6, 10] (by kernel_rfl) (.c (fun _ _ hs => hs.ef) (.c (fun _ _ hs => hs.ef) (.c (fun _ _ hs => hs.ef) (.c (fun _ _ hs => hs.ef) .n))))) (by kernel_rfl) ?_
      refine kThen ?_
      refine kIfF rfl ?_
      refine kSkip ?_
      refine fEnd rfl .n ?_
      rw [e, if_neg (fun h => h.elim h7 h17)]
      exact fun w' hw' => ⟨(), trivial, rfl, hw'⟩
set_option maxRecDepth 100000 in
set_option maxHeartbeats 4000000 in
theorem serves_any (s : Nat) (w : World) (hf : w.heap[nf]? = some (blk (fieldC y f U nm) 81)) (hm : InF w y f) (hF : FldOk f) (hG : f.times = 1 ∨ 1 ≤ f.gap) (hs : s < 8192) :
    Calls Try.prog 31 [.pointer (some ⟨nf, 0, none⟩), u64 s].toArray w (Ret w (.bool (servB f s))) := by
  have hl := hF.l
  have hday : ∀ k, ∀ d ∈ daysTo f s k, k ≤ f.ps.length → 0 ≤ d ∧ d ≤ 65536 := fun k d hd hk => by
    obtain ⟨i, h1, _, h3⟩ := (daysTo_mem f s d k).1 hd
    have := hF.a _ (getD_mem (i := i) (by omega) sky0)
    rw [← h3]; exact this.2.2.1
  refine fEnter Try.func31 rfl Try.ntmps31 rfl ?_
  refine kSeq ?_
  refine kRegion rfl ?_
  refine lE rfl ?_
  refine eBox1 rfl rfl fun n2 => ?_
  refine lV (yAssign rfl) rfl rfl ?_
  refine lNil ?_
  refine kThen ?_
  refine kSeq ?_
  refine kRegion rfl ?_
  refine lV (yAssign rfl) rfl rfl ?_
  refine lNil ?_
  refine kThen ?_
  refine kSeq ?_
  refine kSeq ?_
  refine kRegion rfl ?_
  refine lV (yLoad1 rfl O69 (cOwn 0 rfl rfl)) rfl rfl ?_
  refine lV (yNilCheckP rfl) rfl rfl ?_
  refine lV (yFieldAddr rfl F81_0) rfl rfl ?_
  refine lV (yFieldAddr rfl F30_0) rfl rfl ?_
  refine lV (yLoad1 rfl O28 (cOldB (hf) rfl)) rfl rfl ?_
  refine lV (yLen rfl S28) rfl rfl ?_
  refine lV (yMove rfl) rfl rfl ?_
  refine lNil ?_
  refine kThen ?_
  refine kBlock ?_
  refine kLoopX (ι := Nat × Own) (fun x => x.1 ≤ f.ps.length ∧ OS 1 x.2 ((daysTo f s x.1).map rowI)) (fun x => [(19, i64 (x.1 : Nat)), (5, osV x.2 ((daysTo f s x.1).map rowI).length)]) [(0, _), (1, _), (2, _), (4, _), (13, _), (14, _), (15, _), (16, _), (17, _), (18, _)] (fun x => []) (fun x => (osL 3 x.2)) [(n2, _)] (fun x => f.ps.length - x.1) (0, .e none) (⟨Nat.zero_le _, OS.empty⟩) rfl (.c rfl (.c rfl .n)) (.c rfl (.c rfl (.c rfl (.c rfl (.c rfl (.c rfl (.c rfl (.c rfl (.c rfl (.c rfl .n)))))))))) (.h rfl .n) ?_
  rintro ⟨i, g⟩ ⟨hi, hg⟩
  dsimp only at hi hg ⊢
  refine kSeq ?_
  refine kRegion rfl ?_
  refine lV (yLss rfl rfl) rfl rfl ?_
  refine lNil ?_
  refine kThen ?_
  refine kSeq ?_
  refine split (t := 20) rfl (fun h20 => ?_) (fun h20 => ?_)
  · refine kIfT rfl ?_
    refine kSkip ?_
    refine kThen ?_
    refine kSeq ?_
    refine kBlock ?_
    refine kSeq ?_
    refine kRegion rfl ?_
    refine lV (yMove rfl) rfl rfl ?_
    refine lV (yIndexS  rfl rfl S28 (hm.r) ((by omega))) rfl rfl ?_
    refine lV (yLoadA (vs := [_, _, _, _, _, _]) rfl A37 (cSl0 (hm.r) ((by omega)) rfl)) rfl rfl ?_
    refine lE rfl ?_
    refine eAlloc Z37 fun n7 => ?_
    refine lV (yAssign rfl) rfl rfl ?_
    refine lE rfl ?_
    refine eStoreL 0 rfl rfl rfl rfl K37 rfl (rfl) ?_
    refine lNil ?_
    obtain ⟨x, hx⟩ : ∃ x, x = f.ps.getD i sky0 := ⟨_, rfl⟩
    have hmu1 : f.ps.length - (i + 1) < f.ps.length - i := by omega
    have hdl := daysTo_len f s i
    rw [← hx]
    refine kThen ?_
    refine kSeq ?_
    refine kRegion rfl ?_
    refine lV (yMove rfl) rfl rfl ?_
    refine lV (yMove rfl) rfl rfl ?_
    refine lV (yCall rfl (.c rfl (.c rfl .n)) C27 (fun w hw => khas_any s i w (by omega) (by omega))) rfl rfl ?_
    refine splitB (t := 26) rfl (fun h26 => ?_) (fun h26 => ?_)
    · have hst1 : daysTo f s (i + 1) = daysTo f s i ++ [x.day] := by show (if s.testBit i = true then _ else _) = _; rw [if_pos h26, ← hx]
      have hst2 := hst1
      refine lNil ?_
      refine kThen ?_
      refine kIfT rfl ?_
      refine kRegion rfl ?_
      refine lV (yMove rfl) rfl rfl ?_
      refine lV (yFieldAddr rfl F37_2) rfl rfl ?_
      refine lV (yLoad1 rfl O3 (cOwn 0 rfl rfl)) rfl rfl ?_
      refine lE rfl ?_
      refine eBuildSlice (.c rfl .n) (fun w => BS22_1_0 w) fun n30 => ?_
      refine lE rfl ?_
      refine eAppend (gs := g) [(n30, _), (n7, _), (n2, _)] [rowI x.day] AP22 rfl rfl .r hg rfl (by simp) (SlN.own 0 rfl rfl) (by simp; rfl) (by simp; omega) (by simp; omega) fun h hh => ?_
      refine same (t := 31) (u := osV h ((daysTo f s i).map rowI ++ [rowI x.day]).length) rfl (rfl) ?_
      refine lV (yAssign rfl) rfl rfl ?_
      refine lNil ?_
      refine kInN ?_
      refine kThen ?_
      rw [show ((daysTo f s i).map rowI ++ [rowI x.day]).length = ((daysTo f s (i + 1)).map rowI).length from by rw [hst1, List.map_append]; rfl]
      refine kRegion rfl ?_
      refine lV (yAdd rfl rfl (by omega)) rfl rfl ?_
      refine lV (yMove rfl) rfl rfl ?_
      refine lNil ?_
      exact kRoundX (i + 1, h) (⟨by dsimp only; omega, by dsimp only; rw [hst1, List.map_append]; exact hh⟩) (hmu1) rfl (.c rfl (.c (by rw [hst2]; exact rfl) .n)) (.c rfl (.c rfl (.c rfl (.c rfl (.c rfl (.c rfl (.c rfl (.c rfl (.c rfl (.c rfl .n)))))))))) (.c 2 rfl (.d 0 (.d 0 .r)))
    · have hst2 : daysTo f s (i + 1) = daysTo f s i := by show (if s.testBit i = true then _ else _) = _; rw [if_neg (by rw [h26]; decide)]
      refine lNil ?_
      refine kThen ?_
      refine kIfF rfl ?_
      refine kSkip ?_
      refine kInN ?_
      refine kThen ?_
      refine kRegion rfl ?_
      refine lV (yAdd rfl rfl (by omega)) rfl rfl ?_
      refine lV (yMove rfl) rfl rfl ?_
      refine lNil ?_
      exact kRoundX (i + 1, g) (⟨by dsimp only; omega, by dsimp only; rw [hst2]; exact hg⟩) (hmu1) rfl (.c rfl (.c (by rw [hst2]; exact rfl) .n)) (.c rfl (.c rfl (.c rfl (.c rfl (.c rfl (.c rfl (.c rfl (.c rfl (.c rfl (.c rfl .n)))))))))) (.c 1 rfl (.d 0 .r))
  · refine kIfF rfl ?_
    refine kExit ?_
    refine kThenX ?_
    refine kThenX ?_
    refine kInX ?_
    refine kThen ?_
    refine kSeq ?_
    by_cases hd : daysTo f s f.ps.length = []
    · obtain rfl : i = f.ps.length := by omega
      rw [hd]
      refine kRegion rfl ?_
      refine lV (yMove rfl) rfl rfl ?_
      refine lV (yCall rfl (.c rfl .n) C54 (fun w hw => sort_nil (osA g) (osC g) w)) rfl rfl ?_
      refine lNil ?_
      refine kThen ?_
      refine kSeq ?_
      refine kRegion rfl ?_
      refine lE rfl ?_
      refine eAlloc Z3 fun n8 => ?_
      refine lE rfl ?_
      refine eAlloc Z3 fun n9 => ?_
      refine lE rfl ?_
      refine eStoreL 1 rfl rfl rfl rfl K3 rfl (rfl) ?_
      refine lE rfl ?_
      refine eStoreL 0 rfl rfl rfl rfl K3 rfl (rfl) ?_
      refine lNil ?_
      refine kThen ?_
      refine kSeq ?_
      refine kRegion rfl ?_
      refine lV (yMakeFunc .n (.c rfl (.c rfl (.c rfl .n)))) rfl rfl ?_
      refine lV (yAssign rfl) rfl rfl ?_
      refine lNil ?_
      refine kThen ?_
      refine kSeq ?_
      refine kSeq ?_
      refine kRegion rfl ?_
      refine lV (yMove rfl) rfl rfl ?_
      refine lV (yLen rfl S22) rfl rfl ?_
      refine lV (yMove rfl) rfl rfl ?_
      refine lNil ?_
      refine kThen ?_
      refine kBlock ?_
      refine kLoopX (ι := Unit) (fun _ => True) (fun _ => [(38, i64 0)]) [(2, _), (8, _), (9, _), (36, _), (37, _)] (fun _ => []) (fun _ => []) [(n9, _), (n8, _), (n2, _)] (fun _ => 0) () (trivial) rfl (.c rfl .n) (.c rfl (.c rfl (.c rfl (.c rfl (.c rfl .n))))) (.c 0 rfl (.c 0 rfl (.c 0 rfl .n))) ?_
      rintro _ _
      refine kSeq ?_
      refine kRegion rfl ?_
      refine lV (yLss rfl rfl) rfl rfl ?_
      refine knownN (t := 39) rfl (by simp) ?_
      refine lNil ?_
      refine kThen ?_
      refine kSeq ?_
      refine kIfF rfl ?_
      refine kExit ?_
      refine kThenX ?_
      refine kThenX ?_
      refine kInX ?_
      refine kThen ?_
      refine kSeq ?_
      refine kDrawE [(0, none), (1, none), (5, none)] [] [0, 1, 2, 3, 4, 5, 6, 7] 0 hMix (by kernel_rfl) ?_
      refine .run rfl (yvSame (u := i64 0) (yLoad1 rfl O3 (cOwn 1 rfl rfl)) (rfl)) rfl rfl ?_
      refine .run rfl (yLoad1 rfl O69 (cOwn 2 rfl rfl)) rfl rfl ?_
      refine .run rfl (yNilCheckP rfl) rfl rfl ?_
      refine .run rfl (yFieldAddr rfl F81_0) rfl rfl ?_
      refine .run rfl (yFieldAddr rfl F30_5) rfl rfl ?_
      refine .run rfl (yLoad1 rfl O3 (cOldB (hf) rfl)) rfl rfl ?_
      refine .run rfl (yGeq rfl rfl) rfl rfl ?_
      refine .run rfl (yAssign rfl) rfl rfl ?_
      refine .done ?_
      refine effDone closedSt (hLeft [0, 1, 5] (by kernel_rfl) (.c (fun _ _ hs => hs.ef) (.c (fun _ _ hs => hs.ef) (.c (fun _ _ hs => hs.ef) .n)))) (by kernel_rfl) ?_
      refine kThen ?_
      refine kRet ?_
      refine fRet rfl (.t rfl .n) (endRet ?_)
      simp only [packV]
      unfold servB
      rw [hd]; rfl
    · obtain rfl : i = f.ps.length := by omega
      obtain ⟨nd, cd, vd, rfl⟩ := own_b hg (by rw [ne_eq, List.map_eq_nil_iff]; exact hd)
      obtain ⟨rest, rfl⟩ := own_ints hg
      rw [List.length_map]
      have hdl := daysTo_len f s f.ps.length
      have hdd := hday f.ps.length
      obtain ⟨D, hD⟩ : ∃ D, D = daysTo f s f.ps.length := ⟨_, rfl⟩
      rw [← hD] at hdl hdd ⊢
      clear hg
      refine kRegion rfl ?_
      refine lV (yMove rfl) rfl rfl ?_
      refine lE rfl ?_
      refine eCallM (fun _ => []) (fun l' => [(n2, _), (nd, blk (l'.map i64 ++ rest) 3)]) rfl (.c rfl .n) C54 (fun w hw => sort_any nd cd D rest w (hw.blkAt 1 rfl) (by omega)) (fun l' w w' _ h k => by simpa [upd, osL] using h.wroteL (i := 1) rfl k) fun l' hl' => ?_
      obtain ⟨hl1, hl2, hl3⟩ := hl'
      have hdd' : ∀ d ∈ l', 0 ≤ d ∧ d ≤ 65536 := fun d hd => hdd d ((hl2 d).1 hd) (Nat.le_refl _)
      have hbd := cntTo_bd f.gap l' hdd'
      refine lNil ?_
      refine kThen ?_
      refine kSeq ?_
      refine kRegion rfl ?_
      refine lE rfl ?_
      refine eAlloc Z3 fun n8 => ?_
      refine lE rfl ?_
      refine eAlloc Z3 fun n9 => ?_
      refine lE rfl ?_
      refine eStoreL 1 rfl rfl rfl rfl K3 rfl (rfl) ?_
      refine lE rfl ?_
      refine eStoreL 0 rfl rfl rfl rfl K3 rfl (rfl) ?_
      refine lNil ?_
      refine kThen ?_
      refine kSeq ?_
      refine kRegion rfl ?_
      refine lV (yMakeFunc .n (.c rfl (.c rfl (.c rfl .n)))) rfl rfl ?_
      refine lV (yAssign rfl) rfl rfl ?_
      refine lNil ?_
      refine kThen ?_
      refine kSeq ?_
      refine kSeq ?_
      refine kRegion rfl ?_
      refine lV (yMove rfl) rfl rfl ?_
      refine lV (yLen rfl S22) rfl rfl ?_
      refine lV (yMove rfl) rfl rfl ?_
      refine lNil ?_
      refine kThen ?_
      refine kBlock ?_
      refine kLoopX (ι := Nat) (fun i => i ≤ D.length) (fun i => [(38, i64 (i : Nat))]) [(2, _), (8, _), (9, _), (10, _), (36, _), (37, _)] (fun i => []) (fun i => [(n9, blk [i64 (cntTo f.gap l' i).2] 3), (n8, blk [i64 (cntTo f.gap l' i).1] 3)]) [(n2, _), (nd, _)] (fun i => D.length - i) 0 (Nat.zero_le _) rfl (.c rfl .n) (.c rfl (.c rfl (.c rfl (.c rfl (.c rfl (.c rfl .n)))))) (.c 2 rfl (.c 2 rfl (.c 0 rfl (.c 0 rfl .n)))) ?_
      rintro i hi
      refine kSeq ?_
      refine kRegion rfl ?_
      refine lV (yLss rfl rfl) rfl rfl ?_
      refine lNil ?_
      refine kThen ?_
      refine kSeq ?_
      refine split (t := 39) rfl (fun h39 => ?_) (fun h39 => ?_)
      · refine kIfT rfl ?_
        refine kSkip ?_
        refine kThen ?_
        refine kSeq ?_
        refine kBlock ?_
        refine kSeq ?_
        refine kRegion rfl ?_
        refine lV (yIndexSl rfl rfl S22 (by omega) (by omega)) rfl rfl ?_
        refine lV (yLoad1 rfl O3 (cOwn 1 rfl ((subI (j := i) (by simp) (by omega))))) rfl rfl ?_
        refine lV (yAssign rfl) rfl rfl ?_
        refine lNil ?_
        refine kThen ?_
        have hb := hbd i (by omega)
        have hb3 : (cntTo f.gap l' i).1 ≤ 1000 := by omega
        have hxd := hdd' _ (getD_mem (l := l') (i := i) (by omega) 0)
        refine kRegion rfl ?_
        refine lV (yMove rfl) rfl rfl ?_
        refine lV (yMove rfl) rfl rfl ?_
        refine lE rfl ?_
        refine eCallE (L' := fun _ => [(n9, blk [i64 (stepG f.gap (cntTo f.gap l' i) (l'.getD i 0)).2] 3), (n8, blk [i64 (stepG f.gap (cntTo f.gap l' i) (l'.getD i 0)).1] 3), (n2, blk [.pointer (some ⟨nf, 0, none⟩)] 69)] ++ [(nd, blk (l'.map i64 ++ rest) 3)]) rfl (.c rfl .n) C55 (fun w' hw' => take_any y f U nm nf n8 n9 n2 _ _ _ (hw'.sub (.c 2 rfl (.c 2 rfl (.c 0 rfl (.c 0 rfl .n))))) hf ⟨hb.1.1, hb3⟩ hb.2 hxd) fun _ _ => ?_
        refine lNil ?_
        refine kInN ?_
        refine kThen ?_
        rw [← cntTo_succ f.gap l' (by omega)]
        refine kRegion rfl ?_
        refine lV (yAdd rfl rfl (by omega)) rfl rfl ?_
        refine lV (yMove rfl) rfl rfl ?_
        refine lNil ?_
        exact kRoundX (i + 1) (by omega) (by omega) rfl (.c rfl .n) (.c rfl (.c rfl (.c rfl (.c rfl (.c rfl (.c rfl .n)))))) (.c 2 rfl (.c 2 rfl (.c 0 rfl (.c 0 rfl .n))))
      · refine kIfF rfl ?_
        refine kExit ?_
        refine kThenX ?_
        refine kThenX ?_
        refine kInX ?_
        refine kThen ?_
        refine kSeq ?_
        refine kDrawE [(0, none), (1, none), (5, none)] [] [0, 1, 2, 3, 4, 5, 6, 7] 0 hMix (by kernel_rfl) ?_
        refine .run rfl (yvSame (u := i64 (cntG f.gap l')) (yLoad1 rfl O3 (cOwn 3 rfl rfl)) (by obtain rfl : i = D.length := (by omega); unfold cntTo cntG; rw [← hl1, List.take_length])) rfl rfl ?_
        refine .run rfl (yLoad1 rfl O69 (cOwn 0 rfl rfl)) rfl rfl ?_
        refine .run rfl (yNilCheckP rfl) rfl rfl ?_
        refine .run rfl (yFieldAddr rfl F81_0) rfl rfl ?_
        refine .run rfl (yFieldAddr rfl F30_5) rfl rfl ?_
        refine .run rfl (yLoad1 rfl O3 (cOldB (hf) rfl)) rfl rfl ?_
        refine .run rfl (yGeq rfl rfl) rfl rfl ?_
        refine .run rfl (yAssign rfl) rfl rfl ?_
        refine .done ?_
        refine effDone closedSt (hLeft [0, 1, 5] (by kernel_rfl) (.c (fun _ _ hs => hs.ef) (.c (fun _ _ hs => hs.ef) (.c (fun _ _ hs => hs.ef) .n)))) (by kernel_rfl) ?_
        refine kThen ?_
        refine kRet ?_
        refine fRet rfl (.t rfl .n) (endRet ?_)
        simp only [packV]
        unfold servB
        rw [← hD]
        congr 1
        rw [decide_eq_decide]
        exact cnt_eq hF.t.1 hG (by rw [hl1]; exact hl3) hl2
end
end Go.Proofs.Ytdpeifbejeflhaa
