/-
  Walks: the ways in which notes are right.
-/
import Derived.Test.YtdpeifbejeflhaaVr
namespace Go.Proofs.Ytdpeifbejeflhaa
open ZW

/-- What is kept of an opened shelf. -/
structure InS (w : World) (nS : Nat) (ys yn : Option Addr × Nat) (s : Shl) (an aw : Option Addr × Nat) (m : Value) : Prop where
  b : w.heap[nS]? = some (shBox ys yn s (.slice an.1 s.ns.length an.2) (.slice aw.1 (allW s).length aw.2) m)
  n : SlE w an.1 s.ns.length 1 (fun i => rowN (s.ns.getD i note0))
  v : SlE w aw.1 (allW s).length 8 (fun i => wC ((allW s).getD i w0))
theorem InS.eff {w w' : World} {L : Heap} {nS : Nat} {ys yn : Option Addr × Nat} {s : Shl} {an aw : Option Addr × Nat} {m : Value} (h : InS w nS ys yn s an aw m) (hw : Eff w [] L w') : InS w' nS ys yn s an aw m :=
  ⟨Eff.old' hw h.b, h.n.eff0 hw, h.v.eff0 hw⟩
structure RtI (w : World) (na nb nS : Nat) (ys yn : Option Addr × Nat) (s : Shl) (an aw : Option Addr × Nat) (m : Value) : Prop extends InS w nS ys yn s an aw m where
  ha : w.heap[na]? = some (blk [.pointer (some ⟨nS, 0, none⟩)] 51)
  hb : w.heap[nb]? = some (blk [u64 (2 ^ s.ns.length - 1)] 58)
theorem filt_first {α : Type} {p : α → Bool} (d : α) : ∀ (l : List α) (i : Nat), i < l.length → p (l.getD i d) = true → (∀ j, j < i → p (l.getD j d) = false) → 0 < (l.filter p).length ∧ (l.filter p).getD 0 d = l.getD i d
  | [], i, hi, _, _ => by simp at hi
  | x :: l, 0, _, hp, _ => by
    have hp' : p x = true := hp
    rw [List.filter_cons_of_pos hp']
    exact ⟨by simp, rfl⟩
  | x :: l, i + 1, hi, hp, hn => by
    have h0 : ¬ p x = true := by have := hn 0 (by omega); simp at this; simp [this]
    rw [List.filter_cons_of_neg h0]
    have := filt_first d l i (by simpa using hi) (by simpa using hp) (fun j hj => by simpa using hn (j + 1) (by omega))
    simpa using this
theorem filt_none {α : Type} {p : α → Bool} (d : α) {l : List α} (h : ∀ j, j < l.length → p (l.getD j d) = false) : l.filter p = [] := by
  rw [List.filter_eq_nil_iff]
  intro x hx
  obtain ⟨q, hq, rfl⟩ := List.mem_iff_getElem.1 hx
  have := h q hq
  rw [← List.getElem_eq_getD (h := hq)] at this
  rw [this]; decide
section
variable (ys yn : Option Addr × Nat) (s : Shl) (nS : Nat)
set_option maxRecDepth 100000 in
theorem tright_any (n : Nat) (w : World) : Calls Try.prog 17 [.pointer (some ⟨nS, 0, none⟩), u64 n].toArray w
    (RetX w (fun _ : Nat × Nat => True) (fun x => .func (.func 39) [].toArray [.pointer (some ⟨x.1, 0, none⟩), .pointer (some ⟨x.2, 0, none⟩)].toArray) (fun _ => []) (fun x => [(x.2, blk [u64 n] 58), (x.1, blk [.pointer (some ⟨nS, 0, none⟩)] 51)])) := by
  refine fEnter Try.func17 rfl Try.ntmps17 rfl ?_
  refine kSeq ?_
  refine kRegion rfl ?_
  refine lE rfl ?_
  refine eBox1 rfl rfl fun n2 => ?_
  refine lE rfl ?_
  refine eBox1 rfl rfl fun n3 => ?_
  refine lV (yAssign rfl) rfl rfl ?_
  refine lNil ?_
  refine kThen ?_
  refine kSeq ?_
  refine kRegion rfl ?_
  refine lV (yMakeFunc .n (.c rfl (.c rfl .n))) rfl rfl ?_
  refine lV (yAssign rfl) rfl rfl ?_
  refine lNil ?_
  refine kThen ?_
  refine kRet ?_
  refine fRet rfl (.t rfl .n) ?_
  exact endX (n2, n3) trivial rfl rfl .r
set_option maxRecDepth 100000 in
set_option maxHeartbeats 4000000 in
theorem right1_any (W : World) (hS : ShlOk s) (na nb : Nat) (an aw : Option Addr × Nat) (m : Value) :
    IterD Try.prog 39 [.pointer (some ⟨na, 0, none⟩), .pointer (some ⟨nb, 0, none⟩)] W (fun w => RtI w na nb nS ys yn s an aw m) [] (fun i => wV ((rightW s).getD i w0)) (rightW s).length 0 := by
  intro l φ ψ w C hC hE rd _ hstop
  have hal := allW_len hS
  have hkl := hS.k
  have hn8 := hS.n
  have hR : ∀ w L, Eff W [] (L ++ ([] ++ C)) w → RtI w na nb nS ys yn s an aw m := rd 0 C hC
  refine fEnterE hE Try.func39 rfl Try.ntmps39 rfl ?_
  refine kScope ?_
  refine kSeq ?_
  refine kLabel ?_
  refine kThen ?_
  refine kSeq ?_
  refine kRegion rfl ?_
  refine lV (yLoad1 rfl O51 (cFact (fun w hw => (hR w [] hw).ha) rfl)) rfl rfl ?_
  refine lV (yNilCheckP rfl) rfl rfl ?_
  refine lV (yFieldAddr rfl F67_2) rfl rfl ?_
  refine lV (yLoad1 rfl O64 (cFact (fun w hw => (hR w [] hw).b) rfl)) rfl rfl ?_
  refine lV (yLen rfl S64) rfl rfl ?_
  refine lV (yMove rfl) rfl rfl ?_
  refine lNil ?_
  refine kThen ?_
  refine kBlock ?_
  refine kLoopX (ι := Nat) (fun i => i ≤ (allW s).length ∧ ∀ j, j < i → rightB s ((allW s).getD j w0) = false) (fun i => [(13, i64 (i : Nat))]) [(0, _), (1, _), (2, _), (8, _), (9, _), (10, _), (11, _), (12, _)] (fun i => []) (fun i => (C)) [] (fun i => (allW s).length - i) 0 (⟨Nat.zero_le _, fun j hj => absurd hj (by omega)⟩) rfl (.c rfl .n) (.c rfl (.c rfl (.c rfl (.c rfl (.c rfl (.c rfl (.c rfl (.c rfl .n)))))))) .r ?_
  rintro i ⟨hi, hj⟩
  refine kSeq ?_
  refine kRegion rfl ?_
  refine lV (yLss rfl rfl) rfl rfl ?_
  refine lNil ?_
  refine kThen ?_
  refine kSeq ?_
  refine split (t := 14) rfl (fun h14 => ?_) (fun h14 => ?_)
  · refine kIfT rfl ?_
    refine kSkip ?_
    refine kThen ?_
    refine kSeq ?_
    refine kBlock ?_
    refine kSeq ?_
    refine kRegion rfl ?_
    refine lV (yIndexS  rfl rfl S64 ((fun w hw => (hR w [] hw).v)) ((by omega))) rfl rfl ?_
    refine lV (yLoadA (vs := [_, _, _, _, _, _, _, _]) rfl A61 (cSl0 ((fun w hw => (hR w [] hw).v)) ((by omega)) rfl)) rfl rfl ?_
    refine lE rfl ?_
    refine eAlloc Z61 fun n5 => ?_
    refine lE rfl ?_
    refine eStoreL 0 rfl rfl rfl rfl K61 rfl (rfl) ?_
    refine lNil ?_
    obtain ⟨x, hx⟩ : ∃ x, x = (allW s).getD i w0 := ⟨_, rfl⟩
    rw [← hx]
    refine kThen ?_
    refine kSeq ?_
    refine kSeq ?_
    refine kRegion rfl ?_
    refine lV (yLoad1 rfl O51 (cFact (o := 0) (vs := [_]) (fun w hw => (hR w [_] hw).ha) rfl)) rfl rfl ?_
    refine lV (yNilCheckP rfl) rfl rfl ?_
    refine lV (yFieldAddr rfl F67_1) rfl rfl ?_
    refine lV (yLoad1 rfl O63 (cFact (o := 5) (vs := [_]) (fun w hw => (hR w [_] hw).b) rfl)) rfl rfl ?_
    refine lV (yLen rfl S63) rfl rfl ?_
    refine lV (yMove rfl) rfl rfl ?_
    refine lNil ?_
    refine kThen ?_
    refine kBlock ?_
    refine kLoopX (ι := Nat) (fun k => k ≤ s.ns.length ∧ ∀ j, j < k → noteB (s.ns.getD j note0) x = true) (fun k => [(22, i64 (k : Nat))]) [(0, _), (1, _), (2, _), (8, _), (9, _), (10, _), (11, _), (12, _), (13, _), (14, _), (15, _), (16, _), (5, _), (17, _), (18, _), (19, _), (20, _), (21, _)] (fun k => []) (fun k => ([(n5, blk (wC x) 61)] ++ C)) [] (fun k => s.ns.length - k) 0 (⟨Nat.zero_le _, fun j hj => absurd hj (by omega)⟩) rfl (.c rfl .n) (.c rfl (.c rfl (.c rfl (.c rfl (.c rfl (.c rfl (.c rfl (.c rfl (.c rfl (.c rfl (.c rfl (.c rfl (.c rfl (.c rfl (.c rfl (.c rfl (.c rfl (.c rfl .n)))))))))))))))))) .r ?_
    rintro k ⟨hk, hjk⟩
    refine kSeq ?_
    refine kRegion rfl ?_
    refine lV (yLss rfl rfl) rfl rfl ?_
    refine lNil ?_
    refine kThen ?_
    refine kSeq ?_
    refine split (t := 23) rfl (fun h23 => ?_) (fun h23 => ?_)
    · refine kIfT rfl ?_
      refine kSkip ?_
      refine kThen ?_
      refine kSeq ?_
      refine kBlock ?_
      refine kSeq ?_
      refine kRegion rfl ?_
      refine lV (yMove rfl) rfl rfl ?_
      refine lV (yIndexS  rfl rfl S63 ((fun w hw => (hR w [_] hw).n)) ((by omega))) rfl rfl ?_
      refine lV (yLoad1 rfl O98 (cSl0 ((fun w hw => (hR w [_] hw).n)) ((by omega)) rfl)) rfl rfl ?_
      refine lV (yAssign rfl) rfl rfl ?_
      refine lV (yAssign rfl) rfl rfl ?_
      refine lNil ?_
      have hlt : k < s.ns.length := by omega
      obtain ⟨q, hq⟩ : ∃ q, q = s.ns.getD k note0 := ⟨_, rfl⟩
      have hqm : q ∈ s.ns := hq ▸ getD_mem hlt note0
      have hqo := hS.a q hqm
      rw [← hq]
      have hp12 : 2 ^ s.ns.length ≤ 2 ^ 12 := Nat.pow_le_pow_right (by omega) hkl
      refine kThen ?_
      refine kSeq ?_
      refine kRegion rfl ?_
      refine lV (yLoad1 rfl O58 (cFact (o := 0) (vs := [_]) (fun w hw => (hR w [_] hw).hb) rfl)) rfl rfl ?_
      refine lV (yMove rfl) rfl rfl ?_
      refine lV (yCall rfl (.c rfl (.c rfl .n)) C40 (fun w hw => thas_any (2 ^ s.ns.length - 1) k w (by omega) (by omega))) rfl rfl ?_
      refine knownB (t := 29) (c := true) rfl (by rw [Nat.testBit_two_pow_sub_one]; exact decide_eq_true hlt) ?_
      refine lV (yMove rfl) rfl rfl ?_
      refine lGY rfl rfl rfl (oV (yMove rfl) rfl ?_)
      refine lGY rfl rfl rfl (oV (yLoadA (vs := [_, _, _, _, _, _, _, _]) rfl A61 (cOwn 0 rfl rfl)) rfl ?_)
      refine lGY rfl rfl rfl (oV (yInvoke rfl (.c rfl .n) (noF_m q) (noF_c q) (fun w hw => noF_any q x s.n hqo hn8.2 w)) rfl ?_)
      refine lGY rfl rfl rfl (oV (yNot rfl) rfl ?_)
      refine splitB (t := 34) rfl (fun h34 => ?_) (fun h34 => ?_)
      · have hno : rightB s ((allW s).getD i w0) = false := by
          rw [← hx, Bool.eq_false_iff]
          intro hall
          rw [List.all_eq_true.1 hall q hqm] at h34
          cases h34
        refine lV (yPickT rfl rfl) rfl rfl ?_
        refine lNil ?_
        refine kThen ?_
        refine kIfT rfl ?_
        refine kExit ?_
        refine kInY rfl ?_
        refine kThenX ?_
        refine kThenX ?_
        refine kInY rfl ?_
        refine kThenX ?_
        refine kInX ?_
        refine kThen ?_
        refine kRegion rfl ?_
        refine lV (yAdd rfl rfl (by omega)) rfl rfl ?_
        refine lV (yMove rfl) rfl rfl ?_
        refine lNil ?_
        exact kRoundX (i + 1) (⟨by omega, fun j hl => by rcases Nat.lt_or_ge j i with h | h; (· exact hj j h); (obtain rfl : j = i := by omega); exact hno⟩) (by omega) rfl (.c rfl .n) (.c rfl (.c rfl (.c rfl (.c rfl (.c rfl (.c rfl (.c rfl (.c rfl .n)))))))) (.k rfl .r)
      · have hyes : noteB (s.ns.getD k note0) x = true := by rw [← hq]; simpa using h34
        refine lV (yPickT rfl rfl) rfl rfl ?_
        refine lNil ?_
        refine kThen ?_
        refine kIfF rfl ?_
        refine kSkip ?_
        refine kInN ?_
        refine kThen ?_
        refine kRegion rfl ?_
        refine lV (yAdd rfl rfl (by omega)) rfl rfl ?_
        refine lV (yMove rfl) rfl rfl ?_
        refine lNil ?_
        exact kRoundX (k + 1) (⟨by omega, fun j hl => by rcases Nat.lt_or_ge j k with h | h; (· exact hjk j h); (obtain rfl : j = k := by omega); exact hyes⟩) (by omega) rfl (.c rfl .n) (.c rfl (.c rfl (.c rfl (.c rfl (.c rfl (.c rfl (.c rfl (.c rfl (.c rfl (.c rfl (.c rfl (.c rfl (.c rfl (.c rfl (.c rfl (.c rfl (.c rfl (.c rfl .n)))))))))))))))))) .r
    · refine kIfF rfl ?_
      refine kExit ?_
      refine kThenX ?_
      refine kThenX ?_
      refine kInX ?_
      refine kThen ?_
      refine kSeq ?_
      have hrt : rightB s ((allW s).getD i w0) = true := by
        rw [← hx]
        refine List.all_eq_true.2 fun q hq => ?_
        obtain ⟨j, hl, rfl⟩ := List.mem_iff_getElem.1 hq
        have := hjk j (by omega)
        rwa [← List.getElem_eq_getD (h := hl)] at this
      obtain ⟨hpos, hfst⟩ := filt_first w0 (allW s) i (by omega) hrt hj
      refine kRegion rfl ?_
      refine lV (yMove rfl) rfl rfl ?_
      refine lV (yLoadA (vs := [_, _, _, _, _, _, _, _]) rfl A61 (cOwn 0 rfl rfl)) rfl rfl ?_
      refine same (t := 38) (u := wV ((rightW s).getD 0 w0)) rfl (by rw [hfst, ← hx]) ?_
      refine lE rfl ?_
      refine eYieldE (φ := ψ) (v := fun _ => .bool false) (L' := fun C' => [(n5, blk (wC x) 61)] ++ ([] ++ C')) rfl (.c rfl .n) (fun w hw => hstop hpos C hC w [(n5, blk (wC x) 61)] hw) fun C' hC' => ?_
      refine lV (yNot rfl) rfl rfl ?_
      refine lNil ?_
      refine kThen ?_
      refine kIfT rfl ?_
      refine kRet ?_
      refine kInR ?_
      refine kThenR ?_
      refine kThenR ?_
      refine kInR ?_
      refine kScR ?_
      refine fRet rfl .n ?_
      exact fun w' hw' => ⟨C', .inr ⟨hpos, hC'⟩, rfl, hw'.sub (.k rfl .r)⟩
  · refine kIfF rfl ?_
    refine kExit ?_
    refine kThenX ?_
    refine kThenX ?_
    refine kInX ?_
    refine kScN ?_
    refine fEnd rfl .n ?_
    have hnil : rightW s = [] := filt_none w0 fun j hl => hj j (by omega)
    have hlen : (rightW s).length = 0 := by rw [hnil]; rfl
    exact fun w' hw' => ⟨C, .inl ⟨by omega, by rw [hlen]; exact hC⟩, rfl, hw'⟩
end
end Go.Proofs.Ytdpeifbejeflhaa
