/-
  Walks: a shelf is opened.
-/
import Derived.Test.YtdpeifbejeflhaaVp
namespace Go.Proofs.Ytdpeifbejeflhaa
open ZW

theorem waysW_len (s : Shl) : ∀ (r n : Nat) (w z : Way), n + r ≤ 8 → (waysW s r n w z).length ≤ 9 ^ r := by
  intro r
  induction r with
  | zero =>
    intro n w z _
    unfold waysW
    split <;> simp
  | succ r ih =>
    intro n w z hn
    have hb : ∀ i, (ptW s r n w z i).length ≤ i * 9 ^ r := fun i => by
      induction i with
      | zero => simp [ptW]
      | succ i ihi =>
        rw [ptW_succ, List.length_append, Nat.succ_mul]
        refine Nat.add_le_add ihi ?_
        by_cases hk : okW s w z n i
        · rw [brW_pos hk]; exact ih _ _ _ (by omega)
        · rw [brW_neg hk]; exact Nat.zero_le _
    rw [ptW_all, Nat.pow_succ, Nat.mul_comm]
    exact Nat.le_trans (hb (n + 1)) (Nat.mul_le_mul_right _ (by omega))
theorem allW_len {s : Shl} (hS : ShlOk s) : (allW s).length ≤ 43046721 := by
  have := hS.n
  refine Nat.le_trans (waysW_len s _ _ _ _ (by omega)) ?_
  have h8 : s.n.toNat ≤ 8 := by omega
  exact Nat.le_trans (Nat.pow_le_pow_right (by omega) h8) (by decide)
theorem take_next {α : Type} (l : List α) {i : Nat} (h : i < l.length) (d : α) : l.take (i + 1) = l.take i ++ [l.getD i d] := by
  rw [List.take_add_one, List.getElem?_eq_getElem h, ← List.getElem_eq_getD (h := h)]; rfl
section
variable (ys yn : Option Addr × Nat) (s : Shl) (nS : Nat)
set_option maxRecDepth 100000 in
theorem all1_any (W : World) (hm : InSh W ys yn s) (hS : ShlOk s) (na : Nat) :
    IterD Try.prog 57 [.pointer (some ⟨na, 0, none⟩)] W (RdS nS ys yn s) (naH nS na) (fun i => wV ((allW s).getD i w0)) (allW s).length (allW s).length := by
  intro l φ ψ w C hC hE rd hgo _
  have hn8 := hS.n
  refine fEnterE hE Try.func57 rfl Try.ntmps57 rfl ?_
  refine kSeq ?_
  refine kRegion rfl ?_
  refine lE rfl ?_
  refine eBox1 rfl rfl fun n2 => ?_
  refine lNil ?_
  refine kThen ?_
  refine kSeq ?_
  refine kRegion rfl ?_
  refine lE rfl ?_
  refine eAlloc Z61 fun n3 => ?_
  refine lNil ?_
  refine kThen ?_
  refine kSeq ?_
  refine kRegion rfl ?_
  refine lE rfl ?_
  refine eAlloc Z115 fun n4 => ?_
  refine lNil ?_
  refine kThen ?_
  refine kSeq ?_
  refine kRegion rfl ?_
  refine lV (yMakeFunc .n (.c rfl (.c rfl (.c rfl (.c rfl .n))))) rfl rfl ?_
  refine lE rfl ?_
  refine eStoreL 0 rfl rfl rfl rfl K115 rfl (rfl) ?_
  refine lNil ?_
  refine kThen ?_
  refine kRegion rfl ?_
  refine lV (yLoad1 rfl O115 (cOwn 0 rfl rfl)) rfl rfl ?_
  refine lV (yBuild .n (fun w => B61_ w)) rfl rfl ?_
  refine lE rfl ?_
  skip
  refine eCallE (φ := fun C' => φ (allW s).length C') (v := fun _ => .bool true) (L' := fun C' => onH n3 n2 n4 na l w0 ++ (naH nS na ++ (C' ++ []))) rfl (.c rfl (.c rfl .n)) C58 (fun w hw => ?_) fun C' hC' => ?_
  · have h := on_any ys yn s nS W hm hS na n2 n3 n4 l φ (allW s) rd hgo s.n.toNat 0 w0 w0 [] [] C [] w (by omega) (fun _ _ => rfl) hC (by simp) (hw.perm ?_)
    · simpa using h
    · simp only [List.append_nil]
      exact List.Perm.append_right (naH nS na ++ C) ((List.Perm.swap _ _ _).trans (List.Perm.cons _ (List.Perm.swap _ _ [])))
  refine lNil ?_
  refine fEnd rfl .n ?_
  exact fun w' hw' => ⟨C', .inl ⟨Nat.le_refl _, hC'⟩, rfl, (hw'.sub (.k rfl (.k rfl (.k rfl .r)))).perm (by simp)⟩
set_option maxRecDepth 100000 in
theorem every_any (c q : Nat) (a : Option Addr) (u v : Value) (w : World) (h : w.heap[nS]? = some (shBox ys yn s (.slice a c q) u v)) (hc : c ≤ 12) :
    Calls Try.prog 18 [.pointer (some ⟨nS, 0, none⟩)].toArray w (Ret w (u64 (2 ^ c - 1))) := by
  have hp : 2 ^ c ≤ 2 ^ 12 := Nat.pow_le_pow_right (by omega) hc
  have hp0 : 0 < 2 ^ c := Nat.two_pow_pos _
  refine fEnter Try.func18 rfl Try.ntmps18 rfl ?_
  refine kSeq ?_
  refine kRegion rfl ?_
  refine lV (yAssign rfl) rfl rfl ?_
  refine lNil ?_
  refine kThen ?_
  refine kSeq ?_
  refine kRegion rfl ?_
  refine lV (yMove rfl) rfl rfl ?_
  refine lV (yNilCheckP rfl) rfl rfl ?_
  refine lV (yFieldAddr rfl F67_1) rfl rfl ?_
  refine lV (yLoad1 rfl O63 (cOldB (h) rfl)) rfl rfl ?_
  refine lV (yLen rfl S63) rfl rfl ?_
  refine lV (yShl (a := 1) rfl rfl rfl (by omega) (by omega)) rfl rfl ?_
  refine lV (ySubN (b := 1) rfl rfl rfl (by omega)) rfl rfl ?_
  refine lV (yAssign rfl) rfl rfl ?_
  refine lNil ?_
  refine kThen ?_
  refine kRet ?_
  refine fRet rfl (.t rfl .n) (endRet ?_)
  simp only [packV, Nat.one_mul]
end
end Go.Proofs.Ytdpeifbejeflhaa
