/-
  Walks: all places of a field.
-/
import Derived.Test.YtdpeifbejeflhaaVh
namespace Go.Proofs.Ytdpeifbejeflhaa
open ZW

/-- How many places there are in a row, and how many rows. -/
abbrev plW (f : Fld) : Nat := (f.n.2 - f.n.1 + 1).toNat
abbrev plH (f : Fld) : Nat := (f.e.2 - f.e.1 + 1).toNat
abbrev plN (f : Fld) : Nat := plH f * plW f
def plP (f : Fld) (i : Nat) : Int × Int := (f.e.1 + ((i / plW f : Nat) : Int), f.n.1 + ((i % plW f : Nat) : Int))
theorem plP_at (f : Fld) {r c : Nat} (hc : c < plW f) : plP f (r * plW f + c) = (f.e.1 + (r : Nat), f.n.1 + (c : Nat)) := by
  unfold plP
  rw [Nat.mul_comm, Nat.mul_add_div (by omega), Nat.mul_add_mod, Nat.div_eq_of_lt hc, Nat.mod_eq_of_lt hc, Nat.add_zero]
theorem plP_in (f : Fld) (hF : FldOk f) {i : Nat} (hi : i < plN f) : (f.e.1 ≤ (plP f i).1 ∧ (plP f i).1 ≤ f.e.2) ∧ (f.n.1 ≤ (plP f i).2 ∧ (plP f i).2 ≤ f.n.2) := by
  have hE := hF.e
  have hN := hF.n
  unfold spn at hE hN
  have hw : 0 < plW f := by unfold plW; omega
  have h1 : i / plW f < plH f := Nat.div_lt_of_lt_mul (by rw [Nat.mul_comm]; exact hi)
  have h2 := Nat.mod_lt i hw
  unfold plP
  unfold plH at h1
  have h2' : i % plW f < (f.n.2 - f.n.1 + 1).toNat := h2
  dsimp only
  obtain ⟨q, hq⟩ : ∃ q, q = i / plW f := ⟨_, rfl⟩
  obtain ⟨m, hm⟩ : ∃ m, m = i % plW f := ⟨_, rfl⟩
  rw [← hq] at h1 ⊢
  rw [← hm] at h2' ⊢
  omega
theorem plP_all (f : Fld) {a b : Int} (ha : f.e.1 ≤ a ∧ a ≤ f.e.2) (hb : f.n.1 ≤ b ∧ b ≤ f.n.2) : ∃ i, i < plN f ∧ plP f i = (a, b) := by
  have hc : (b - f.n.1).toNat < plW f := by unfold plW; omega
  have hr : (a - f.e.1).toNat < plH f := by unfold plH; omega
  refine ⟨(a - f.e.1).toNat * plW f + (b - f.n.1).toNat, ?_, ?_⟩
  · have h1 : ((a - f.e.1).toNat + 1) * plW f ≤ plH f * plW f := Nat.mul_le_mul_right _ hr
    rw [Nat.add_mul, Nat.one_mul] at h1
    show _ < plH f * plW f
    omega
  · rw [plP_at f hc]
    simp only [Prod.mk.injEq]
    omega
abbrev plV' (f : Fld) (i : Nat) : Value := .agg (rowE (plP f i)).toArray
section
variable (y : Option Addr × Nat) (f : Fld) (U nm nf : Nat)
set_option maxRecDepth 100000 in
theorem all_any (w : World) (hf : w.heap[nf]? = some (blk (fieldC y f U nm) 81)) (hl : f.ps.length ≤ 12) : Calls Try.prog 47 [.pointer (some ⟨nf, 0, none⟩)].toArray w (Ret w (u64 (2 ^ f.ps.length - 1))) := by
  have hp : 2 ^ f.ps.length ≤ 2 ^ 12 := Nat.pow_le_pow_right (by omega) hl
  have hp0 : 0 < 2 ^ f.ps.length := Nat.two_pow_pos _
  refine fEnter Try.func47 rfl Try.ntmps47 rfl ?_
  refine kSeq ?_
  refine kRegion rfl ?_
  refine lV (yAssign rfl) rfl rfl ?_
  refine lNil ?_
  refine kThen ?_
  refine kSeq ?_
  refine kRegion rfl ?_
  refine lV (yMove rfl) rfl rfl ?_
  refine lV (yNilCheckP rfl) rfl rfl ?_
  refine lV (yFieldAddr rfl F81_0) rfl rfl ?_
  refine lV (yFieldAddr rfl F30_0) rfl rfl ?_
  refine lV (yLoad1 rfl O28 (cOldB (hf) rfl)) rfl rfl ?_
  refine lV (yLen rfl S28) rfl rfl ?_
  refine lV (yShl (a := 1) rfl rfl rfl (by omega) (by omega)) rfl rfl ?_
  refine lV (ySubN (b := 1) rfl rfl rfl (by omega)) rfl rfl ?_
  refine lV (yAssign rfl) rfl rfl ?_
  refine lNil ?_
  refine kThen ?_
  refine kRet ?_
  refine fRet rfl (.t rfl .n) (endRet ?_)
  simp only [packV, Nat.one_mul]
set_option maxRecDepth 100000 in
theorem isSet_any (n : Int) (w : World) (hf : w.heap[nf]? = some (blk (fieldC y f U nm) 81)) (hl : f.ps.length ≤ 12) : Calls Try.prog 29 [.pointer (some ⟨nf, 0, none⟩), i64 n].toArray w (Ret w (.bool (decide (0 ≤ n ∧ n ≤ ((2 ^ f.ps.length - 1 : Nat) : Int))))) := by
  have hp : 2 ^ f.ps.length ≤ 2 ^ 12 := Nat.pow_le_pow_right (by omega) hl
  refine fEnter Try.func29 rfl Try.ntmps29 rfl ?_
  refine kSeq ?_
  refine kRegion rfl ?_
  refine lV (yAssign rfl) rfl rfl ?_
  refine lNil ?_
  refine kThen ?_
  refine kSeq ?_
  refine kRegion rfl ?_
  refine lV (yMove rfl) rfl rfl ?_
  refine lV (yMove rfl) rfl rfl ?_
  refine lV (yCall rfl (.c rfl .n) C47 (fun w hw => all_any y f U nm nf w (Eff.old' hw hf) hl)) rfl rfl ?_
  refine lV (yConvInt rfl U71 U3 (conv_ok (by omega))) rfl rfl ?_
  refine lV (yCall rfl (.c rfl (.c rfl (.c rfl .n))) C52 (fun w hw => kwithin_any _ _ _ w)) rfl rfl ?_
  refine lV (yAssign rfl) rfl rfl ?_
  refine lNil ?_
  refine kThen ?_
  refine kRet ?_
  refine fRet rfl (.t rfl .n) (endRet ?_)
  rfl
set_option maxRecDepth 100000 in
theorem places_any (w : World) : Calls Try.prog 30 [.pointer (some ⟨nf, 0, none⟩)].toArray w
    (RetX w (fun _ : Nat => True) (fun nb => .func (.func 53) [].toArray [.pointer (some ⟨nb, 0, none⟩)].toArray) (fun _ => []) (fun nb => [(nb, blk [.pointer (some ⟨nf, 0, none⟩)] 69)])) := by
  refine fEnter Try.func30 rfl Try.ntmps30 rfl ?_
  refine kSeq ?_
  refine kRegion rfl ?_
  refine lE rfl ?_
  refine eBox1 rfl rfl fun n1 => ?_
  refine lV (yAssign rfl) rfl rfl ?_
  refine lNil ?_
  refine kThen ?_
  refine kSeq ?_
  refine kRegion rfl ?_
  refine lV (yMakeFunc .n (.c rfl .n)) rfl rfl ?_
  refine lV (yAssign rfl) rfl rfl ?_
  refine lNil ?_
  refine kThen ?_
  refine kRet ?_
  refine fRet rfl (.t rfl .n) ?_
  exact endX n1 trivial rfl rfl .r
set_option maxRecDepth 100000 in
set_option maxHeartbeats 2000000 in
theorem places1_any (nb : Nat) (W : World) (hf : W.heap[nf]? = some (blk (fieldC y f U nm) 81)) (hF : FldOk f) :
    IterC Try.prog 53 [.pointer (some ⟨nb, 0, none⟩)] W [(nb, blk [.pointer (some ⟨nf, 0, none⟩)] 69)] (plV' f) (plN f) (plN f) := by
  intro l φ ψ w C hC hE hgo _
  have hEE := hF.e
  have hNN := hF.n
  unfold spn at hEE hNN
  have hw0 : 0 < plW f := by unfold plW; omega
  have hwd : (plW f : Int) = f.n.2 - f.n.1 + 1 := by unfold plW; omega
  have hhd : (plH f : Int) = f.e.2 - f.e.1 + 1 := by unfold plH; omega
  refine fEnterE hE Try.func53 rfl Try.ntmps53 rfl ?_
  refine kSeq ?_
  refine kRegion rfl ?_
  refine lV (yLoad1 rfl O69 (cOwn 0 rfl rfl)) rfl rfl ?_
  refine lV (yNilCheckP rfl) rfl rfl ?_
  refine lV (yFieldAddr rfl F81_0) rfl rfl ?_
  refine lV (yFieldAddr rfl F30_1) rfl rfl ?_
  refine lV (yFieldAddr rfl F24_0) rfl rfl ?_
  refine lV (yLoad1 rfl O3 (cOldB (hf) rfl)) rfl rfl ?_
  refine lV (yAssign rfl) rfl rfl ?_
  refine lNil ?_
  refine kThen ?_
  refine kBlock ?_
  refine kLoopX (ι := Nat × Heap) (fun x => x.1 ≤ plH f ∧ φ (x.1 * plW f) x.2) (fun x => [(3, i64 (f.e.1 + (x.1 : Nat)))]) [(0, _), (1, _), (5, _), (6, _), (7, _), (8, _), (9, _), (10, _)] (fun x => []) (fun x => ([(nb, blk [.pointer (some ⟨nf, 0, none⟩)] 69)] ++ x.2)) [] (fun x => plH f - x.1) (0, C) (⟨Nat.zero_le _, by dsimp only; rw [Nat.zero_mul]; exact hC⟩) rfl (.c (by dsimp only; rw [Int.natCast_zero, Int.add_zero]; rfl) .n) (.c rfl (.c rfl (.c rfl (.c rfl (.c rfl (.c rfl (.c rfl (.c rfl .n)))))))) .r ?_
  rintro ⟨r, C⟩ ⟨hr, hC⟩
  dsimp only at hr hC ⊢
  refine kSeq ?_
  refine kSeq ?_
  refine kRegion rfl ?_
  refine lV (yMove rfl) rfl rfl ?_
  refine lV (yLoad1 rfl O69 (cOwn 0 rfl rfl)) rfl rfl ?_
  refine lV (yNilCheckP rfl) rfl rfl ?_
  refine lV (yFieldAddr rfl F81_0) rfl rfl ?_
  refine lV (yFieldAddr rfl F30_1) rfl rfl ?_
  refine lV (yFieldAddr rfl F24_1) rfl rfl ?_
  refine lV (yLoad1 rfl O3 (cOldB (hf) rfl)) rfl rfl ?_
  refine lV (yLeq rfl rfl) rfl rfl ?_
  refine split (t := 18) rfl (fun h18 => ?_) (fun h18 => ?_)
  · refine lNil ?_
    refine kThen ?_
    refine kIfT rfl ?_
    refine kSkip ?_
    refine kThen ?_
    refine kSeq ?_
    refine kBlock ?_
    refine kSeq ?_
    refine kRegion rfl ?_
    refine lV (yLoad1 rfl O69 (cOwn 0 rfl rfl)) rfl rfl ?_
    refine lV (yNilCheckP rfl) rfl rfl ?_
    refine lV (yFieldAddr rfl F81_0) rfl rfl ?_
    refine lV (yFieldAddr rfl F30_2) rfl rfl ?_
    refine lV (yFieldAddr rfl F24_0) rfl rfl ?_
    refine lV (yLoad1 rfl O3 (cOldB (hf) rfl)) rfl rfl ?_
    refine lV (yAssign rfl) rfl rfl ?_
    refine lNil ?_
    refine kThen ?_
    refine kBlock ?_
    refine kLoopX (ι := Nat × Heap) (fun x => x.1 ≤ plW f ∧ φ (r * plW f + x.1) x.2) (fun x => [(4, i64 (f.n.1 + (x.1 : Nat)))]) [(0, _), (1, _), (5, _), (6, _), (7, _), (8, _), (9, _), (10, _), (3, _), (11, _), (12, _), (13, _), (14, _), (15, _), (16, _), (17, _), (18, _), (21, _), (22, _), (23, _), (24, _), (25, _), (26, _)] (fun x => []) (fun x => ([(nb, blk [.pointer (some ⟨nf, 0, none⟩)] 69)] ++ x.2)) [] (fun x => plW f - x.1) (0, C) (⟨Nat.zero_le _, hC⟩) rfl (.c (by dsimp only; rw [Int.natCast_zero, Int.add_zero]; rfl) .n) (.c rfl (.c rfl (.c rfl (.c rfl (.c rfl (.c rfl (.c rfl (.c rfl (.c rfl (.c rfl (.c rfl (.c rfl (.c rfl (.c rfl (.c rfl (.c rfl (.c rfl (.c rfl (.c rfl (.c rfl (.c rfl (.c rfl (.c rfl .n))))))))))))))))))))))) .r ?_
    rintro ⟨c, C⟩ ⟨hc, hC⟩
    dsimp only at hc hC ⊢
    refine kSeq ?_
    refine kSeq ?_
    refine kRegion rfl ?_
    refine lV (yMove rfl) rfl rfl ?_
    refine lV (yLoad1 rfl O69 (cOwn 0 rfl rfl)) rfl rfl ?_
    refine lV (yNilCheckP rfl) rfl rfl ?_
    refine lV (yFieldAddr rfl F81_0) rfl rfl ?_
    refine lV (yFieldAddr rfl F30_2) rfl rfl ?_
    refine lV (yFieldAddr rfl F24_1) rfl rfl ?_
    refine lV (yLoad1 rfl O3 (cOldB (hf) rfl)) rfl rfl ?_
    refine lV (yLeq rfl rfl) rfl rfl ?_
    refine split (t := 34) rfl (fun h34 => ?_) (fun h34 => ?_)
    · refine lNil ?_
      refine kThen ?_
      refine kIfT rfl ?_
      refine kSkip ?_
      refine kThen ?_
      refine kSeq ?_
      refine kBlock ?_
      refine kSeq ?_
      have hcw : c < plW f := by omega
      have hrw : r < plH f := by omega
      have hlt : r * plW f + c < plN f := by
        have h1 : (r + 1) * plW f ≤ plH f * plW f := Nat.mul_le_mul_right _ hrw
        rw [Nat.add_mul, Nat.one_mul] at h1
        show r * plW f + c < plH f * plW f
        omega
      refine kRegion rfl ?_
      refine lV (yMove rfl) rfl rfl ?_
      refine lV (yMove rfl) rfl rfl ?_
      refine lV (yMove rfl) rfl rfl ?_
      refine lV (yBuild (.c rfl (.c rfl .n)) (fun w => B87_0_1 w)) rfl rfl ?_
      refine same (t := 40) (u := plV' f (r * plW f + c)) rfl (by rw [plV', plP_at f hcw]) ?_
      refine lE rfl ?_
      refine eYieldE (φ := φ (r * plW f + c + 1)) (v := fun _ => .bool true) (L' := fun C' => [(nb, blk [.pointer (some ⟨nf, 0, none⟩)] 69)] ++ C') rfl (.c rfl .n) (fun w hw => hgo (r * plW f + c) C hlt hC w [] hw) fun C' hC' => ?_
      refine lV (yNot rfl) rfl rfl ?_
      refine lNil ?_
      refine kThen ?_
      refine kIfF rfl ?_
      refine kSkip ?_
      refine kInN ?_
      refine kThen ?_
      refine kRegion rfl ?_
      refine lV (yMove rfl) rfl rfl ?_
      refine lV (yAdd rfl rfl (by omega)) rfl rfl ?_
      refine lV (yAssign rfl) rfl rfl ?_
      refine lNil ?_
      exact kRoundX (c + 1, C') (⟨by dsimp only; omega, hC'⟩) (by dsimp only; omega) rfl (.c (by dsimp only; rw [show f.n.1 + ((c + 1 : Nat) : Int) = f.n.1 + (c : Nat) + 1 from by omega]; rfl) .n) (.c rfl (.c rfl (.c rfl (.c rfl (.c rfl (.c rfl (.c rfl (.c rfl (.c rfl (.c rfl (.c rfl (.c rfl (.c rfl (.c rfl (.c rfl (.c rfl (.c rfl (.c rfl (.c rfl (.c rfl (.c rfl (.c rfl (.c rfl .n))))))))))))))))))))))) .r
    · refine lNil ?_
      refine kThen ?_
      refine kIfF rfl ?_
      refine kExit ?_
      refine kThenX ?_
      refine kThenX ?_
      refine kInX ?_
      refine kInN ?_
      refine kThen ?_
      refine kRegion rfl ?_
      refine lV (yMove rfl) rfl rfl ?_
      refine lV (yAdd rfl rfl (by omega)) rfl rfl ?_
      refine lV (yAssign rfl) rfl rfl ?_
      refine lNil ?_
      exact kRoundX (r + 1, C) (⟨by dsimp only; omega, by dsimp only; rw [Nat.add_mul, Nat.one_mul, show r * plW f + plW f = r * plW f + c from by omega]; exact hC⟩) (by dsimp only; omega) rfl (.c (by dsimp only; rw [show f.e.1 + ((r + 1 : Nat) : Int) = f.e.1 + (r : Nat) + 1 from by omega]; rfl) .n) (.c rfl (.c rfl (.c rfl (.c rfl (.c rfl (.c rfl (.c rfl (.c rfl .n)))))))) .r
  · refine lNil ?_
    refine kThen ?_
    refine kIfF rfl ?_
    refine kExit ?_
    refine kThenX ?_
    refine kThenX ?_
    refine kInX ?_
    refine fEnd rfl .n ?_
    exact fun w' hw' => ⟨C, .inl ⟨Nat.le_refl _, by rw [show plN f = r * plW f from by rw [show r = plH f from by omega]]; exact hC⟩, rfl, hw'⟩
end
end Go.Proofs.Ytdpeifbejeflhaa
