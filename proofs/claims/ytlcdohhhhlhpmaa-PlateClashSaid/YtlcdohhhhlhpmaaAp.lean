/-
  Walks: sets as numbers.
-/
import Derived.Test.YtlcdohhhhlhpmaaAo
import Derived.Test.YtlcdohhhhlhpmaaEngY
namespace Go.Proofs.Ytlcdohhhhlhpmaa
open ZW

/-- How many binary places a number below 256 has. -/
def lenB (n : Nat) : Nat := if n = 0 then 0 else if n < 2 then 1 else if n < 4 then 2 else if n < 8 then 3 else if n < 16 then 4 else if n < 32 then 5 else if n < 64 then 6 else if n < 128 then 7 else 8
def lenT (n : Nat) : Nat := if n ≥ 256 then 8 + lenB (n / 2 ^ 8) else lenB n
theorem tab_of (s : ByteArray) (h : ((List.range 256).all fun k => ((s[k]?).getD 0).toNat == lenB k) = true) {k : Nat} (hk : k < 256) : Value.int .u8 (((s[k]?).getD 0).toNat : Nat) = .int .u8 ((lenB k : Nat) : Int) := by
  have := List.all_eq_true.1 h k (List.mem_range.2 hk)
  rw [beq_iff_eq] at this
  rw [this]
theorem lenB_le (n : Nat) : lenB n ≤ 8 := by unfold lenB; (repeat' split) <;> omega
theorem lenT_le : ∀ s, s < 1024 → lenT s ≤ 10 := by
  have h : ((List.range 1024).all fun s => Nat.ble (lenT s) 10) = true := by kernel_rfl
  intro s hs
  exact Nat.le_of_ble_eq_true (List.all_eq_true.1 h s (List.mem_range.2 hs))
theorem lenT_bit : ∀ s, s < 1024 → ∀ i, s.testBit i = true → i < lenT s := by
  have h : ((List.range 1024).all fun s => Nat.blt s (2 ^ lenT s)) = true := by kernel_rfl
  intro s hs i hi
  have h1 : s < 2 ^ lenT s := by
    have := List.all_eq_true.1 h s (List.mem_range.2 hs)
    exact Nat.le_of_ble_eq_true this
  rcases Nat.lt_or_ge i (lenT s) with h2 | h2
  · exact h2
  · have h3 : s < 2 ^ i := Nat.lt_of_lt_of_le h1 (Nat.pow_le_pow_right (by omega) h2)
    rw [Nat.testBit_lt_two_pow h3] at hi
    cases hi
theorem u8_in {n : Nat} (h : n < 256) : IntKind.u8.wrap (n : Int) = n := IntWalk.u8_in _ (by omega)
set_option maxRecDepth 100000 in
theorem len64_any (s : Nat) (w : World) (hs : s < 1024) : Calls Try.prog 131 [.int .u64 (s : Nat)].toArray w (Ret w (i64 (lenT s : Nat))) := by
  have hB := lenB_le s
  have hB2 := lenB_le (s / 2 ^ 8)
  have hq : s / 2 ^ 8 < 256 := by rw [show (2 : Nat) ^ 8 = 256 from rfl]; omega
  refine fEnter Try.func131 rfl Try.ntmps131 rfl ?_
  refine kSeq ?_
  refine kRegion rfl ?_
  refine lV (yAssign rfl) rfl rfl ?_
  refine lNil ?_
  refine kThen ?_
  refine kSeq ?_
  refine kSeq ?_
  refine kRegion rfl ?_
  refine lV (yMove rfl) rfl rfl ?_
  refine lV (yGeq rfl rfl) rfl rfl ?_
  refine knownN (t := 4) rfl (by omega) ?_
  refine lNil ?_
  refine kThen ?_
  refine kIfF rfl ?_
  refine kSkip ?_
  refine kThen ?_
  refine kSeq ?_
  refine kSeq ?_
  refine kRegion rfl ?_
  refine lV (yMove rfl) rfl rfl ?_
  refine lV (yGeq rfl rfl) rfl rfl ?_
  refine knownN (t := 8) rfl (by omega) ?_
  refine lNil ?_
  refine kThen ?_
  refine kIfF rfl ?_
  refine kSkip ?_
  refine kThen ?_
  refine kSeq ?_
  refine kSeq ?_
  refine kRegion rfl ?_
  refine lV (yMove rfl) rfl rfl ?_
  refine lV (yGeq rfl rfl) rfl rfl ?_
  refine split (t := 14) rfl (fun h14 => ?_) (fun h14 => ?_)
  · refine lNil ?_
    refine kThen ?_
    refine kIfT rfl ?_
    refine kSeq ?_
    refine kRegion rfl ?_
    refine lV (yMove rfl) rfl rfl ?_
    refine lV (yShr rfl rfl rfl (by omega)) rfl rfl ?_
    refine lV (yAssign rfl) rfl rfl ?_
    refine lNil ?_
    refine kThen ?_
    refine kRegion rfl ?_
    refine lV (yMove rfl) rfl rfl ?_
    refine lV (yAdd rfl rfl (by omega)) rfl rfl ?_
    refine lV (yAssign rfl) rfl rfl ?_
    refine lNil ?_
    refine kThen ?_
    refine kSeq ?_
    refine kRegion rfl ?_
    refine lV (yMove rfl) rfl rfl ?_
    refine lV (yMove rfl) rfl rfl ?_
    refine lV (yConvInt rfl U168 U5 (u8_in hq)) rfl rfl ?_
    refine lV (yIndexStr rfl rfl (by kernel_rfl) (by kernel_rfl) (hq)) rfl rfl ?_
    refine same (t := 22) (u := .int .u8 ((lenB (s / 2 ^ 8) : Nat) : Int)) rfl (tab_of _ (by kernel_rfl) (by first | exact hq | omega)) ?_
    refine lV (yConvInt rfl U5 U3 (conv_ok (by omega))) rfl rfl ?_
    refine lV (yAdd rfl rfl (by omega)) rfl rfl ?_
    refine lV (yAssign rfl) rfl rfl ?_
    refine lNil ?_
    refine kThen ?_
    refine kRet ?_
    refine fRet rfl (.t rfl .n) (endRet ?_)
    simp only [packV, lenT]
    rw [if_pos (by omega)]; congr 2
  · refine lNil ?_
    refine kThen ?_
    refine kIfF rfl ?_
    refine kSkip ?_
    refine kThen ?_
    refine kSeq ?_
    refine kRegion rfl ?_
    refine lV (yMove rfl) rfl rfl ?_
    refine lV (yMove rfl) rfl rfl ?_
    refine lV (yConvInt rfl U168 U5 (u8_in (by omega))) rfl rfl ?_
    refine lV (yIndexStr rfl rfl (by kernel_rfl) (by kernel_rfl) (by omega)) rfl rfl ?_
    refine same (t := 22) (u := .int .u8 ((lenB s : Nat) : Int)) rfl (tab_of _ (by kernel_rfl) (by first | exact hq | omega)) ?_
    refine lV (yConvInt rfl U5 U3 (conv_ok (by omega))) rfl rfl ?_
    refine lV (yAdd rfl rfl (by omega)) rfl rfl ?_
    refine lV (yAssign rfl) rfl rfl ?_
    refine lNil ?_
    refine kThen ?_
    refine kRet ?_
    refine fRet rfl (.t rfl .n) (endRet ?_)
    simp only [packV, lenT]
    rw [if_neg (by omega)]; congr 2; omega
set_option maxRecDepth 100000 in
theorem len_any (s : Nat) (w : World) (hs : s < 1024) : Calls Try.prog 114 [.int .u64 (s : Nat)].toArray w (Ret w (i64 (lenT s : Nat))) := by
  refine fEnter Try.func114 rfl Try.ntmps114 rfl ?_
  refine kSeq ?_
  refine kRegion rfl ?_
  refine lV (yAssign rfl) rfl rfl ?_
  refine lNil ?_
  refine kThen ?_
  refine kSeq ?_
  refine kIfF rfl ?_
  refine kSkip ?_
  refine kThen ?_
  refine kSeq ?_
  refine kRegion rfl ?_
  refine lV (yMove rfl) rfl rfl ?_
  refine lV (yCall rfl (.c rfl .n) C131 (fun w hw => len64_any s w hs)) rfl rfl ?_
  refine lV (yAssign rfl) rfl rfl ?_
  refine lNil ?_
  refine kThen ?_
  refine kRet ?_
  refine fRet rfl (.t rfl .n) (endRet ?_)
  rfl
end Go.Proofs.Ytlcdohhhhlhpmaa
