/-
  Walks: fields that are valid; which plates are of use.
-/
import Derived.Test.YtdpeifbejeflhaaVa
namespace Go.Proofs.Ytdpeifbejeflhaa
open ZW

/-- How many binary places a number below 256 has. -/
def lenB (n : Nat) : Nat := if n = 0 then 0 else if n < 2 then 1 else if n < 4 then 2 else if n < 8 then 3 else if n < 16 then 4 else if n < 32 then 5 else if n < 64 then 6 else if n < 128 then 7 else 8
def lenT (n : Nat) : Nat := if n ≥ 256 then 8 + lenB (n / 2 ^ 8) else lenB n
theorem tab_of (s : ByteArray) (h : ((List.range 256).all fun k => ((s[k]?).getD 0).toNat == lenB k) = true) {k : Nat} (hk : k < 256) : Value.int .u8 (((s[k]?).getD 0).toNat : Nat) = .int .u8 ((lenB k : Nat) : Int) := by
  have := List.all_eq_true.1 h k (List.mem_range.2 hk)
  rw [beq_iff_eq] at this
  rw [this]
theorem lenB_le (n : Nat) : lenB n ≤ 8 := by unfold lenB; (repeat' split) <;> omega
theorem lenT_le : ∀ s, s < 1024 → lenT s ≤ 10 := by
  have h : ((List.range 1024).all fun s => Nat.ble (lenT s) 10) = true := by kernel_rfl
  intro s hs
  exact Nat.le_of_ble_eq_true (List.all_eq_true.1 h s (List.mem_range.2 hs))
theorem lenT_bit : ∀ s, s < 1024 → ∀ i, s.testBit i = true → i < lenT s := by
  have h : ((List.range 1024).all fun s => Nat.blt s (2 ^ lenT s)) = true := by kernel_rfl
  intro s hs i hi
  have h1 : s < 2 ^ lenT s := by
    have := List.all_eq_true.1 h s (List.mem_range.2 hs)
    exact Nat.le_of_ble_eq_true this
  rcases Nat.lt_or_ge i (lenT s) with h2 | h2
  · exact h2
  · have h3 : s < 2 ^ i := Nat.lt_of_lt_of_le h1 (Nat.pow_le_pow_right (by omega) h2)
    rw [Nat.testBit_lt_two_pow h3] at hi
    cases hi
theorem u8_in {n : Nat} (h : n < 256) : IntKind.u8.wrap (n : Int) = n := IntWalk.u8_in _ (by omega)
set_option maxRecDepth 100000 in
theorem len64_any (s : Nat) (w : World) (hs : s < 1024) : Calls Try.prog 85 [.int .u64 (s : Nat)].toArray w (Ret w (i64 (lenT s : Nat))) := by
  have hB := lenB_le s
  have hB2 := lenB_le (s / 2 ^ 8)
  have hq : s / 2 ^ 8 < 256 := by rw [show (2 : Nat) ^ 8 = 256 from rfl]; omega
  refine fEnter Try.func85 rfl Try.ntmps85 rfl ?_
  refine kSeq ?_
  refine kRegion rfl ?_
  refine lV (yAssign rfl) rfl rfl ?_
  refine lNil ?_
  refine kThen ?_
  refine kSeq ?_
  refine kSeq ?_
  refine kRegion rfl ?_
  refine lV (yMove rfl) rfl rfl ?_
  refine lV (yGeq rfl rfl) rfl rfl ?_
  refine knownN (t := 4) rfl (by omega) ?_
  refine lNil ?_
  refine kThen ?_
  refine kIfF rfl ?_
  refine kSkip ?_
  refine kThen ?_
  refine kSeq ?_
  refine kSeq ?_
  refine kRegion rfl ?_
  refine lV (yMove rfl) rfl rfl ?_
  refine lV (yGeq rfl rfl) rfl rfl ?_
  refine knownN (t := 8) rfl (by omega) ?_
  refine lNil ?_
  refine kThen ?_
  refine kIfF rfl ?_
  refine kSkip ?_
  refine kThen ?_
  refine kSeq ?_
  refine kSeq ?_
  refine kRegion rfl ?_
  refine lV (yMove rfl) rfl rfl ?_
  refine lV (yGeq rfl rfl) rfl rfl ?_
  refine split (t := 14) rfl (fun h14 => ?_) (fun h14 => ?_)
  · refine lNil ?_
    refine kThen ?_
    refine kIfT rfl ?_
    refine kSeq ?_
    refine kRegion rfl ?_
    refine lV (yMove rfl) rfl rfl ?_
    refine lV (yShr rfl rfl rfl (by omega)) rfl rfl ?_
    refine lV (yAssign rfl) rfl rfl ?_
    refine lNil ?_
    refine kThen ?_
    refine kRegion rfl ?_
    refine lV (yMove rfl) rfl rfl ?_
    refine lV (yAdd rfl rfl (by omega)) rfl rfl ?_
    refine lV (yAssign rfl) rfl rfl ?_
    refine lNil ?_
    refine kThen ?_
    refine kSeq ?_
    refine kRegion rfl ?_
    refine lV (yMove rfl) rfl rfl ?_
    refine lV (yMove rfl) rfl rfl ?_
    refine lV (yConvInt rfl U130 U5 (u8_in hq)) rfl rfl ?_
    refine lV (yIndexStr rfl rfl (by kernel_rfl) (by kernel_rfl) (hq)) rfl rfl ?_
    refine same (t := 22) (u := .int .u8 ((lenB (s / 2 ^ 8) : Nat) : Int)) rfl (tab_of _ (by kernel_rfl) (by first | exact hq | omega)) ?_
    refine lV (yConvInt rfl U5 U3 (conv_ok (by omega))) rfl rfl ?_
    refine lV (yAdd rfl rfl (by omega)) rfl rfl ?_
    refine lV (yAssign rfl) rfl rfl ?_
    refine lNil ?_
    refine kThen ?_
    refine kRet ?_
    refine fRet rfl (.t rfl .n) (endRet ?_)
    simp only [packV, lenT]
    rw [if_pos (by omega)]; congr 2
  · refine lNil ?_
    refine kThen ?_
    refine kIfF rfl ?_
    refine kSkip ?_
    refine kThen ?_
    refine kSeq ?_
    refine kRegion rfl ?_
    refine lV (yMove rfl) rfl rfl ?_
    refine lV (yMove rfl) rfl rfl ?_
    refine lV (yConvInt rfl U130 U5 (u8_in (by omega))) rfl rfl ?_
    refine lV (yIndexStr rfl rfl (by kernel_rfl) (by kernel_rfl) (by omega)) rfl rfl ?_
    refine same (t := 22) (u := .int .u8 ((lenB s : Nat) : Int)) rfl (tab_of _ (by kernel_rfl) (by first | exact hq | omega)) ?_
    refine lV (yConvInt rfl U5 U3 (conv_ok (by omega))) rfl rfl ?_
    refine lV (yAdd rfl rfl (by omega)) rfl rfl ?_
    refine lV (yAssign rfl) rfl rfl ?_
    refine lNil ?_
    refine kThen ?_
    refine kRet ?_
    refine fRet rfl (.t rfl .n) (endRet ?_)
    simp only [packV, lenT]
    rw [if_neg (by omega)]; congr 2; omega
set_option maxRecDepth 100000 in
theorem len_any (s : Nat) (w : World) (hs : s < 1024) : Calls Try.prog 71 [.int .u64 (s : Nat)].toArray w (Ret w (i64 (lenT s : Nat))) := by
  refine fEnter Try.func71 rfl Try.ntmps71 rfl ?_
  refine kSeq ?_
  refine kRegion rfl ?_
  refine lV (yAssign rfl) rfl rfl ?_
  refine lNil ?_
  refine kThen ?_
  refine kSeq ?_
  refine kIfF rfl ?_
  refine kSkip ?_
  refine kThen ?_
  refine kSeq ?_
  refine kRegion rfl ?_
  refine lV (yMove rfl) rfl rfl ?_
  refine lV (yCall rfl (.c rfl .n) C85 (fun w hw => len64_any s w hs)) rfl rfl ?_
  refine lV (yAssign rfl) rfl rfl ?_
  refine lNil ?_
  refine kThen ?_
  refine kRet ?_
  refine fRet rfl (.t rfl .n) (endRet ?_)
  rfl

theorem E87 : eqFs Try.prog 87 = some [(3, 0), (3, 1)] := by kernel_rfl
theorem Q87 (p q : Int × Int) (w : World) : (Op.equal 87 (plV p) (plV q)).run Try.prog w = .ok (decide (p = q)) w := by
  rw [equal_step, run_equalIn_fs E87]
  refine Eq.trans (eqAll_int O3 U3 rfl rfl (eqAll_int O3 U3 rfl rfl (eqAll_nil))) ?_
  simp only [and_true, Prod.ext_iff]
theorem HMP79 : MapP Try.prog 79 71 (u64 0) where
  ex := ⟨87, by kernel_rfl, ⟨Try.prog.fieldsOf 87, by kernel_rfl⟩, Q87, fun b p w => by cases b <;> kernel_rfl⟩
  zero w := by kernel_rfl

/-! ### Fields -/
structure Fld where
  ps : List SkyV
  e : Int × Int
  n : Int × Int
  d : Int × Int
  depth : Int
  times : Int
  gap : Int
abbrev fldC (y : Option Addr × Nat) (f : Fld) : List Value := [.slice y.1 f.ps.length y.2, i64 f.e.1, i64 f.e.2, i64 f.n.1, i64 f.n.2, i64 f.d.1, i64 f.d.2, i64 f.depth, i64 f.times, i64 f.gap]
abbrev InF (w : World) (y : Option Addr × Nat) (f : Fld) : Prop := SlE w y.1 f.ps.length 6 (fun i => rowY (f.ps.getD i sky0))
def spn (b : Int) (s : Int × Int) : Prop := 0 ≤ s.1 ∧ s.1 ≤ s.2 ∧ s.2 ≤ b
instance (b : Int) (s : Int × Int) : Decidable (spn b s) := inferInstanceAs (Decidable (_ ∧ _))
def skyOk (x : SkyV) : Prop := spn 32 x.e ∧ spn 32 x.n ∧ (0 ≤ x.day ∧ x.day ≤ 65536) ∧ (0 ≤ x.depth ∧ x.depth ≤ 100)
instance (x : SkyV) : Decidable (skyOk x) := inferInstanceAs (Decidable (_ ∧ _))
structure FldOk (f : Fld) : Prop where
  e : spn 32 f.e
  n : spn 32 f.n
  d : spn 65536 f.d
  dep : 0 ≤ f.depth ∧ f.depth ≤ 100
  t : 1 ≤ f.times ∧ f.times ≤ 4
  g : 0 ≤ f.gap ∧ f.gap ≤ 65536
  l : f.ps.length ≤ 12
  a : ∀ x ∈ f.ps, skyOk x
instance (f : Fld) : Decidable (FldOk f) := decidable_of_iff (spn 32 f.e ∧ spn 32 f.n ∧ spn 65536 f.d ∧ (0 ≤ f.depth ∧ f.depth ≤ 100) ∧ (1 ≤ f.times ∧ f.times ≤ 4) ∧ (0 ≤ f.gap ∧ f.gap ≤ 65536) ∧ f.ps.length ≤ 12 ∧ ∀ x ∈ f.ps, skyOk x)
  ⟨fun ⟨a, b, c, d, e, g, h, i⟩ => ⟨a, b, c, d, e, g, h, i⟩, fun h => ⟨h.e, h.n, h.d, h.dep, h.t, h.g, h.l, h.a⟩⟩
set_option maxRecDepth 100000 in
theorem isField1_any (x : SkyV) (w : World) : Calls Try.prog 60 [.agg (rowY x).toArray].toArray w (Ret w (.bool (!decide (skyOk x)))) := by
  refine fEnter Try.func60 rfl Try.ntmps60 rfl ?_
  refine kSeq ?_
  refine kRegion rfl ?_
  refine lE rfl ?_
  refine eBoxA rfl fun n1 => ?_
  refine lV (yAssign rfl) rfl rfl ?_
  refine lNil ?_
  refine kThen ?_
  refine kSeq ?_
  by_cases hs : skyOk x
  · refine kRegion rfl ?_
    refine lV (yFieldAddr rfl F37_0) rfl rfl ?_
    refine lV (yLoadA (vs := [_, _]) rfl A24 (cOwn 0 rfl rfl)) rfl rfl ?_
    refine lV (yCall rfl (.c rfl (.c rfl .n)) C61 (fun w hw => kspan_any x.e 32 w)) rfl rfl ?_
    refine knownB (t := 5) (c := true) rfl (decide_eq_true (by first | exact hs.1 | exact k1)) ?_
    refine lV (yNot rfl) rfl rfl ?_
    refine lV (yMove rfl) rfl rfl ?_
    refine lGY rfl rfl rfl (oV (yFieldAddr rfl F37_1) rfl ?_)
    refine lGY rfl rfl rfl (oV (yLoadA (vs := [_, _]) rfl A24 (cOwn 0 rfl rfl)) rfl ?_)
    refine lGY rfl rfl rfl (oV (yCall rfl (.c rfl (.c rfl .n)) C61 (fun w hw => kspan_any x.n 32 w)) rfl ?_)
    refine knownB (t := 10) (c := true) rfl (decide_eq_true (by first | exact hs.2.1 | exact k2)) ?_
    refine lGY rfl rfl rfl (oV (yNot rfl) rfl ?_)
    refine lV (yPickF rfl rfl) rfl rfl ?_
    refine lV (yMove rfl) rfl rfl ?_
    refine lGY rfl rfl rfl (oV (yFieldAddr rfl F37_2) rfl ?_)
    refine lGY rfl rfl rfl (oV (yLoad1 rfl O3 (cOwn 0 rfl rfl)) rfl ?_)
    refine lGY rfl rfl rfl (oV (yCall rfl (.c rfl (.c rfl (.c rfl .n))) C52 (fun w hw => kwithin_any _ _ _ w)) rfl ?_)
    refine knownB (t := 16) (c := true) rfl (decide_eq_true (by first | exact hs.2.2.1 | exact k3)) ?_
    refine lGY rfl rfl rfl (oV (yNot rfl) rfl ?_)
    refine lV (yPickF rfl rfl) rfl rfl ?_
    refine lV (yMove rfl) rfl rfl ?_
    refine lGY rfl rfl rfl (oV (yFieldAddr rfl F37_3) rfl ?_)
    refine lGY rfl rfl rfl (oV (yLoad1 rfl O3 (cOwn 0 rfl rfl)) rfl ?_)
    refine lGY rfl rfl rfl (oV (yCall rfl (.c rfl (.c rfl (.c rfl .n))) C52 (fun w hw => kwithin_any _ _ _ w)) rfl ?_)
    refine knownB (t := 22) (c := true) rfl (decide_eq_true hs.2.2.2) ?_
    refine lGY rfl rfl rfl (oV (yNot rfl) rfl ?_)
    refine lV (yPickF rfl rfl) rfl rfl ?_
    refine lV (yAssign rfl) rfl rfl ?_
    refine lNil ?_
    refine kThen ?_
    refine kRet ?_
    refine fRet rfl (.t rfl .n) (endRet ?_)
    rw [decide_eq_true hs]; rfl
  · by_cases k1 : spn 32 x.e
    · by_cases k2 : spn 32 x.n
      · by_cases k3 : 0 ≤ x.day ∧ x.day ≤ 65536
        · refine kRegion rfl ?_
          refine lV (yFieldAddr rfl F37_0) rfl rfl ?_
          refine lV (yLoadA (vs := [_, _]) rfl A24 (cOwn 0 rfl rfl)) rfl rfl ?_
          refine lV (yCall rfl (.c rfl (.c rfl .n)) C61 (fun w hw => kspan_any x.e 32 w)) rfl rfl ?_
          refine knownB (t := 5) (c := true) rfl (decide_eq_true (by first | exact hs.1 | exact k1)) ?_
          refine lV (yNot rfl) rfl rfl ?_
          refine lV (yMove rfl) rfl rfl ?_
          refine lGY rfl rfl rfl (oV (yFieldAddr rfl F37_1) rfl ?_)
          refine lGY rfl rfl rfl (oV (yLoadA (vs := [_, _]) rfl A24 (cOwn 0 rfl rfl)) rfl ?_)
          refine lGY rfl rfl rfl (oV (yCall rfl (.c rfl (.c rfl .n)) C61 (fun w hw => kspan_any x.n 32 w)) rfl ?_)
          refine knownB (t := 10) (c := true) rfl (decide_eq_true (by first | exact hs.2.1 | exact k2)) ?_
          refine lGY rfl rfl rfl (oV (yNot rfl) rfl ?_)
          refine lV (yPickF rfl rfl) rfl rfl ?_
          refine lV (yMove rfl) rfl rfl ?_
          refine lGY rfl rfl rfl (oV (yFieldAddr rfl F37_2) rfl ?_)
          refine lGY rfl rfl rfl (oV (yLoad1 rfl O3 (cOwn 0 rfl rfl)) rfl ?_)
          refine lGY rfl rfl rfl (oV (yCall rfl (.c rfl (.c rfl (.c rfl .n))) C52 (fun w hw => kwithin_any _ _ _ w)) rfl ?_)
          refine knownB (t := 16) (c := true) rfl (decide_eq_true (by first | exact hs.2.2.1 | exact k3)) ?_
          refine lGY rfl rfl rfl (oV (yNot rfl) rfl ?_)
          refine lV (yPickF rfl rfl) rfl rfl ?_
          refine lV (yMove rfl) rfl rfl ?_
          refine lGY rfl rfl rfl (oV (yFieldAddr rfl F37_3) rfl ?_)
          refine lGY rfl rfl rfl (oV (yLoad1 rfl O3 (cOwn 0 rfl rfl)) rfl ?_)
          refine lGY rfl rfl rfl (oV (yCall rfl (.c rfl (.c rfl (.c rfl .n))) C52 (fun w hw => kwithin_any _ _ _ w)) rfl ?_)
          refine knownB (t := 22) (c := false) rfl (decide_eq_false fun k4 => hs ⟨k1, k2, k3, k4⟩) ?_
          refine lGY rfl rfl rfl (oV (yNot rfl) rfl ?_)
          refine lV (yPickF rfl rfl) rfl rfl ?_
          refine lV (yAssign rfl) rfl rfl ?_
          refine lNil ?_
          refine kThen ?_
          refine kRet ?_
          refine fRet rfl (.t rfl .n) (endRet ?_)
          rw [decide_eq_false hs]; rfl
        · refine kRegion rfl ?_
          refine lV (yFieldAddr rfl F37_0) rfl rfl ?_
          refine lV (yLoadA (vs := [_, _]) rfl A24 (cOwn 0 rfl rfl)) rfl rfl ?_
          refine lV (yCall rfl (.c rfl (.c rfl .n)) C61 (fun w hw => kspan_any x.e 32 w)) rfl rfl ?_
          refine knownB (t := 5) (c := true) rfl (decide_eq_true (by first | exact hs.1 | exact k1)) ?_
          refine lV (yNot rfl) rfl rfl ?_
          refine lV (yMove rfl) rfl rfl ?_
          refine lGY rfl rfl rfl (oV (yFieldAddr rfl F37_1) rfl ?_)
          refine lGY rfl rfl rfl (oV (yLoadA (vs := [_, _]) rfl A24 (cOwn 0 rfl rfl)) rfl ?_)
          refine lGY rfl rfl rfl (oV (yCall rfl (.c rfl (.c rfl .n)) C61 (fun w hw => kspan_any x.n 32 w)) rfl ?_)
          refine knownB (t := 10) (c := true) rfl (decide_eq_true (by first | exact hs.2.1 | exact k2)) ?_
          refine lGY rfl rfl rfl (oV (yNot rfl) rfl ?_)
          refine lV (yPickF rfl rfl) rfl rfl ?_
          refine lV (yMove rfl) rfl rfl ?_
          refine lGY rfl rfl rfl (oV (yFieldAddr rfl F37_2) rfl ?_)
          refine lGY rfl rfl rfl (oV (yLoad1 rfl O3 (cOwn 0 rfl rfl)) rfl ?_)
          refine lGY rfl rfl rfl (oV (yCall rfl (.c rfl (.c rfl (.c rfl .n))) C52 (fun w hw => kwithin_any _ _ _ w)) rfl ?_)
          refine knownB (t := 16) (c := false) rfl (decide_eq_false k3) ?_
          refine lGY rfl rfl rfl (oV (yNot rfl) rfl ?_)
          refine lV (yPickF rfl rfl) rfl rfl ?_
          refine lV (yMove rfl) rfl rfl ?_
          refine lGN rfl rfl rfl rfl rfl ?_
          refine lGN rfl rfl rfl rfl rfl ?_
          refine lGN rfl rfl rfl rfl rfl ?_
          refine lGN rfl rfl rfl rfl rfl ?_
          refine lV (yPickT rfl rfl) rfl rfl ?_
          refine lV (yAssign rfl) rfl rfl ?_
          refine lNil ?_
          refine kThen ?_
          refine kRet ?_
          refine fRet rfl (.t rfl .n) (endRet ?_)
          rw [decide_eq_false hs]; rfl
      · refine kRegion rfl ?_
        refine lV (yFieldAddr rfl F37_0) rfl rfl ?_
        refine lV (yLoadA (vs := [_, _]) rfl A24 (cOwn 0 rfl rfl)) rfl rfl ?_
        refine lV (yCall rfl (.c rfl (.c rfl .n)) C61 (fun w hw => kspan_any x.e 32 w)) rfl rfl ?_
        refine knownB (t := 5) (c := true) rfl (decide_eq_true (by first | exact hs.1 | exact k1)) ?_
        refine lV (yNot rfl) rfl rfl ?_
        refine lV (yMove rfl) rfl rfl ?_
        refine lGY rfl rfl rfl (oV (yFieldAddr rfl F37_1) rfl ?_)
        refine lGY rfl rfl rfl (oV (yLoadA (vs := [_, _]) rfl A24 (cOwn 0 rfl rfl)) rfl ?_)
        refine lGY rfl rfl rfl (oV (yCall rfl (.c rfl (.c rfl .n)) C61 (fun w hw => kspan_any x.n 32 w)) rfl ?_)
        refine knownB (t := 10) (c := false) rfl (decide_eq_false k2) ?_
        refine lGY rfl rfl rfl (oV (yNot rfl) rfl ?_)
        refine lV (yPickF rfl rfl) rfl rfl ?_
        refine lV (yMove rfl) rfl rfl ?_
        refine lGN rfl rfl rfl rfl rfl ?_
        refine lGN rfl rfl rfl rfl rfl ?_
        refine lGN rfl rfl rfl rfl rfl ?_
        refine lGN rfl rfl rfl rfl rfl ?_
        refine lV (yPickT rfl rfl) rfl rfl ?_
        refine lV (yMove rfl) rfl rfl ?_
        refine lGN rfl rfl rfl rfl rfl ?_
        refine lGN rfl rfl rfl rfl rfl ?_
        refine lGN rfl rfl rfl rfl rfl ?_
        refine lGN rfl rfl rfl rfl rfl ?_
        refine lV (yPickT rfl rfl) rfl rfl ?_
        refine lV (yAssign rfl) rfl rfl ?_
        refine lNil ?_
        refine kThen ?_
        refine kRet ?_
        refine fRet rfl (.t rfl .n) (endRet ?_)
        rw [decide_eq_false hs]; rfl
    · refine kRegion rfl ?_
      refine lV (yFieldAddr rfl F37_0) rfl rfl ?_
      refine lV (yLoadA (vs := [_, _]) rfl A24 (cOwn 0 rfl rfl)) rfl rfl ?_
      refine lV (yCall rfl (.c rfl (.c rfl .n)) C61 (fun w hw => kspan_any x.e 32 w)) rfl rfl ?_
      refine knownB (t := 5) (c := false) rfl (decide_eq_false k1) ?_
      refine lV (yNot rfl) rfl rfl ?_
      refine lV (yMove rfl) rfl rfl ?_
      refine lGN rfl rfl rfl rfl rfl ?_
      refine lGN rfl rfl rfl rfl rfl ?_
      refine lGN rfl rfl rfl rfl rfl ?_
      refine lGN rfl rfl rfl rfl rfl ?_
      refine lV (yPickT rfl rfl) rfl rfl ?_
      refine lV (yMove rfl) rfl rfl ?_
      refine lGN rfl rfl rfl rfl rfl ?_
      refine lGN rfl rfl rfl rfl rfl ?_
      refine lGN rfl rfl rfl rfl rfl ?_
      refine lGN rfl rfl rfl rfl rfl ?_
      refine lV (yPickT rfl rfl) rfl rfl ?_
      refine lV (yMove rfl) rfl rfl ?_
      refine lGN rfl rfl rfl rfl rfl ?_
      refine lGN rfl rfl rfl rfl rfl ?_
      refine lGN rfl rfl rfl rfl rfl ?_
      refine lGN rfl rfl rfl rfl rfl ?_
      refine lV (yPickT rfl rfl) rfl rfl ?_
      refine lV (yAssign rfl) rfl rfl ?_
      refine lNil ?_
      refine kThen ?_
      refine kRet ?_
      refine fRet rfl (.t rfl .n) (endRet ?_)
      rw [decide_eq_false hs]; rfl
set_option maxRecDepth 100000 in
theorem isField_ok (y : Option Addr × Nat) (f : Fld) (w : World) (hm : InF w y f) (hF : FldOk f) : Calls Try.prog 41 [.agg (fldC y f).toArray].toArray w (Ret w (.bool true)) := by
  have hl := hF.l
  refine fEnter Try.func41 rfl Try.ntmps41 rfl ?_
  refine kSeq ?_
  refine kRegion rfl ?_
  refine lE rfl ?_
  refine eBoxA rfl fun n1 => ?_
  refine lV (yAssign rfl) rfl rfl ?_
  refine lNil ?_
  refine kThen ?_
  refine kSeq ?_
  refine kRegion rfl ?_
  refine lV (yAssign rfl) rfl rfl ?_
  refine lNil ?_
  refine kThen ?_
  refine kSeq ?_
  refine kRegion rfl ?_
  refine lV (yFieldAddr rfl F30_1) rfl rfl ?_
  refine lV (yLoadA (vs := [_, _]) rfl A24 (cOwn 0 rfl rfl)) rfl rfl ?_
  refine lV (yCall rfl (.c rfl (.c rfl .n)) C61 (fun w hw => kspan_any f.e 32 w)) rfl rfl ?_
  refine knownB (t := 8) (c := true) rfl (decide_eq_true hF.e) ?_
  refine lV (yMove rfl) rfl rfl ?_
  refine lGY rfl rfl rfl (oV (yFieldAddr rfl F30_2) rfl ?_)
  refine lGY rfl rfl rfl (oV (yLoadA (vs := [_, _]) rfl A24 (cOwn 0 rfl rfl)) rfl ?_)
  refine lGY rfl rfl rfl (oV (yCall rfl (.c rfl (.c rfl .n)) C61 (fun w hw => kspan_any f.n 32 w)) rfl ?_)
  refine knownB (t := 12) (c := true) rfl (decide_eq_true hF.n) ?_
  refine lV (yPickT rfl rfl) rfl rfl ?_
  refine lV (yMove rfl) rfl rfl ?_
  refine lGY rfl rfl rfl (oV (yFieldAddr rfl F30_3) rfl ?_)
  refine lGY rfl rfl rfl (oV (yLoadA (vs := [_, _]) rfl A24 (cOwn 0 rfl rfl)) rfl ?_)
  refine lGY rfl rfl rfl (oV (yCall rfl (.c rfl (.c rfl .n)) C61 (fun w hw => kspan_any f.d 65536 w)) rfl ?_)
  refine knownB (t := 17) (c := true) rfl (decide_eq_true hF.d) ?_
  refine lV (yPickT rfl rfl) rfl rfl ?_
  refine lV (yAssign rfl) rfl rfl ?_
  refine lNil ?_
  refine kThen ?_
  refine kSeq ?_
  refine kRegion rfl ?_
  refine lV (yFieldAddr rfl F30_4) rfl rfl ?_
  refine lV (yLoad1 rfl O3 (cOwn 0 rfl rfl)) rfl rfl ?_
  refine lV (yCall rfl (.c rfl (.c rfl (.c rfl .n))) C52 (fun w hw => kwithin_any _ _ _ w)) rfl rfl ?_
  refine knownB (t := 21) (c := true) rfl (decide_eq_true hF.dep) ?_
  refine lV (yMove rfl) rfl rfl ?_
  refine lGY rfl rfl rfl (oV (yFieldAddr rfl F30_5) rfl ?_)
  refine lGY rfl rfl rfl (oV (yLoad1 rfl O3 (cOwn 0 rfl rfl)) rfl ?_)
  refine lGY rfl rfl rfl (oV (yCall rfl (.c rfl (.c rfl (.c rfl .n))) C52 (fun w hw => kwithin_any _ _ _ w)) rfl ?_)
  refine knownB (t := 25) (c := true) rfl (decide_eq_true hF.t) ?_
  refine lV (yPickT rfl rfl) rfl rfl ?_
  refine lV (yMove rfl) rfl rfl ?_
  refine lGY rfl rfl rfl (oV (yFieldAddr rfl F30_6) rfl ?_)
  refine lGY rfl rfl rfl (oV (yLoad1 rfl O3 (cOwn 0 rfl rfl)) rfl ?_)
  refine lGY rfl rfl rfl (oV (yCall rfl (.c rfl (.c rfl (.c rfl .n))) C52 (fun w hw => kwithin_any _ _ _ w)) rfl ?_)
  refine knownB (t := 30) (c := true) rfl (decide_eq_true hF.g) ?_
  refine lV (yPickT rfl rfl) rfl rfl ?_
  refine lV (yAssign rfl) rfl rfl ?_
  refine lNil ?_
  refine kThen ?_
  refine kSeq ?_
  refine kRegion rfl ?_
  refine lV (yMove rfl) rfl rfl ?_
  refine lV (yMove rfl) rfl rfl ?_
  refine lGY rfl rfl rfl (oV (yMove rfl) rfl ?_)
  refine lV (yPickT rfl rfl) rfl rfl ?_
  refine lV (yMove rfl) rfl rfl ?_
  refine lGY rfl rfl rfl (oV (yFieldAddr rfl F30_0) rfl ?_)
  refine lGY rfl rfl rfl (oV (yLoad1 rfl O28 (cOwn 0 rfl rfl)) rfl ?_)
  refine lGY rfl rfl rfl (oV (yLen rfl S28) rfl ?_)
  refine lGY rfl rfl rfl (oV (yLeq rfl rfl) rfl ?_)
  refine known (t := 40) rfl (by omega) ?_
  refine lV (yPickT rfl rfl) rfl rfl ?_
  refine lV (yMove rfl) rfl rfl ?_
  refine lGY rfl rfl rfl (oV (yFieldAddr rfl F30_0) rfl ?_)
  refine lGY rfl rfl rfl (oV (yLoad1 rfl O28 (cOwn 0 rfl rfl)) rfl ?_)
  refine lGY rfl rfl rfl (oV (yMove rfl) rfl ?_)
  refine lGY rfl rfl rfl (oV (yCall rfl (.c rfl (.c rfl .n)) C62 (fun w hw => containsSk_any _ _ _ 60 [] w f.ps (fun x => !decide (skyOk x)) rfl (by omega) (hm.eff0 hw) C60 (fun w' _ x _ => isField1_any x w'))) rfl ?_)
  refine knownB (t := 46) (c := false) rfl (by rw [List.any_eq_false]; intro x hx; simp [hF.a x hx]) ?_
  refine lGY rfl rfl rfl (oV (yNot rfl) rfl ?_)
  refine lV (yPickT rfl rfl) rfl rfl ?_
  refine lV (yAssign rfl) rfl rfl ?_
  refine lNil ?_
  refine kThen ?_
  refine kRet ?_
  refine fRet rfl (.t rfl .n) (endRet ?_)
  rfl
set_option maxRecDepth 100000 in
set_option maxHeartbeats 2000000 in
theorem reffield_any (y : Option Addr × Nat) (f : Fld) (w : World) (hm : InF w y f) (hl : f.ps.length ≤ 1000) : Calls Try.prog 7 [.agg (fldC y f).toArray].toArray w (Ret w (.bool (decide (FldOk f)))) := by
  refine fEnter Try.func7 rfl Try.ntmps7 rfl ?_
  refine kSeq ?_
  refine kRegion rfl ?_
  refine lE rfl ?_
  refine eBoxA rfl fun n1 => ?_
  refine lV (yAssign rfl) rfl rfl ?_
  refine lNil ?_
  refine kThen ?_
  refine kSeq ?_
  refine kSeq ?_
  refine kRegion rfl ?_
  refine lV (yAssign rfl) rfl rfl ?_
  refine lNil ?_
  refine kThen ?_
  refine kBlock ?_
  refine kLoopX (ι := Nat) (fun i => i ≤ f.ps.length ∧ ∀ j, j < i → skyOk (f.ps.getD j sky0)) (fun i => [(3, i64 (i : Nat))]) [(0, _), (1, _)] (fun i => []) (fun i => []) [(n1, _)] (fun i => f.ps.length - i) 0 (⟨Nat.zero_le _, fun j hj => absurd hj (by omega)⟩) rfl (.c rfl .n) (.c rfl (.c rfl .n)) (.c 0 rfl .n) ?_
  rintro i ⟨hi, hj⟩
  refine kSeq ?_
  refine kSeq ?_
  refine kRegion rfl ?_
  refine lV (yMove rfl) rfl rfl ?_
  refine lV (yFieldAddr rfl F30_0) rfl rfl ?_
  refine lV (yLoad1 rfl O28 (cOwn 0 rfl rfl)) rfl rfl ?_
  refine lV (yLen rfl S28) rfl rfl ?_
  refine lV (yLss rfl rfl) rfl rfl ?_
  refine lNil ?_
  refine kThen ?_
  refine split (t := 9) rfl (fun h9 => ?_) (fun h9 => ?_)
  · refine kIfT rfl ?_
    refine kSkip ?_
    refine kThen ?_
    refine kSeq ?_
    refine kBlock ?_
    refine kSeq ?_
    refine kRegion rfl ?_
    refine lV (yFieldAddr rfl F30_0) rfl rfl ?_
    refine lV (yLoad1 rfl O28 (cOwn 0 rfl rfl)) rfl rfl ?_
    refine lV (yMove rfl) rfl rfl ?_
    refine lV (yIndexS  rfl rfl S28 (hm.r) ((by omega))) rfl rfl ?_
    refine lV (yLoadA (vs := [_, _, _, _, _, _]) rfl A37 (cSl0 (hm.r) ((by omega)) rfl)) rfl rfl ?_
    refine lE rfl ?_
    refine eAlloc Z37 fun n4 => ?_
    refine lE rfl ?_
    refine eStoreL 0 rfl rfl rfl rfl K37 rfl (rfl) ?_
    refine lNil ?_
    obtain ⟨x, hx⟩ : ∃ x, x = f.ps.getD i sky0 := ⟨_, rfl⟩
    have hxm : x ∈ f.ps := hx ▸ getD_mem (by omega) sky0
    rw [← hx]
    refine kThen ?_
    refine kSeq ?_
    by_cases hs : skyOk x
    · refine kRegion rfl ?_
      refine lV (yFieldAddr rfl F37_0) rfl rfl ?_
      refine lV (yLoadA (vs := [_, _]) rfl A24 (cOwn 0 rfl rfl)) rfl rfl ?_
      refine lV (yCall rfl (.c rfl (.c rfl (.c rfl .n))) C20 (fun w hw => refspan_any x.e 0 32 w)) rfl rfl ?_
      refine knownB (t := 19) (c := true) rfl (decide_eq_true (by first | exact hs.1 | exact k1)) ?_
      refine lV (yNot rfl) rfl rfl ?_
      refine lV (yMove rfl) rfl rfl ?_
      refine lGY rfl rfl rfl (oV (yFieldAddr rfl F37_1) rfl ?_)
      refine lGY rfl rfl rfl (oV (yLoadA (vs := [_, _]) rfl A24 (cOwn 0 rfl rfl)) rfl ?_)
      refine lGY rfl rfl rfl (oV (yCall rfl (.c rfl (.c rfl (.c rfl .n))) C20 (fun w hw => refspan_any x.n 0 32 w)) rfl ?_)
      refine knownB (t := 24) (c := true) rfl (decide_eq_true (by first | exact hs.2.1 | exact k2)) ?_
      refine lGY rfl rfl rfl (oV (yNot rfl) rfl ?_)
      refine lV (yPickF rfl rfl) rfl rfl ?_
      refine lV (yMove rfl) rfl rfl ?_
      refine lGY rfl rfl rfl (oV (yFieldAddr rfl F37_2) rfl ?_)
      refine lGY rfl rfl rfl (oV (yLoad1 rfl O3 (cOwn 0 rfl rfl)) rfl ?_)
      refine lGY rfl rfl rfl (oV (yCall rfl (.c rfl (.c rfl (.c rfl .n))) C21 (fun w hw => refin10_any _ _ _ w)) rfl ?_)
      refine knownB (t := 30) (c := true) rfl (decide_eq_true (by first | exact hs.2.2.1 | exact k3)) ?_
      refine lGY rfl rfl rfl (oV (yNot rfl) rfl ?_)
      refine lV (yPickF rfl rfl) rfl rfl ?_
      refine lV (yMove rfl) rfl rfl ?_
      refine lGY rfl rfl rfl (oV (yFieldAddr rfl F37_3) rfl ?_)
      refine lGY rfl rfl rfl (oV (yLoad1 rfl O3 (cOwn 0 rfl rfl)) rfl ?_)
      refine lGY rfl rfl rfl (oV (yCall rfl (.c rfl (.c rfl (.c rfl .n))) C21 (fun w hw => refin10_any _ _ _ w)) rfl ?_)
      refine knownB (t := 36) (c := true) rfl (decide_eq_true hs.2.2.2) ?_
      refine lGY rfl rfl rfl (oV (yNot rfl) rfl ?_)
      refine lV (yPickF rfl rfl) rfl rfl ?_
      refine lNil ?_
      have hsk : skyOk (f.ps.getD i sky0) := hx ▸ hs
      refine kThen ?_
      refine kIfF rfl ?_
      refine kSkip ?_
      refine kInN ?_
      refine kThen ?_
      refine kRegion rfl ?_
      refine lV (yMove rfl) rfl rfl ?_
      refine lV (yAdd rfl rfl (by omega)) rfl rfl ?_
      refine lV (yAssign rfl) rfl rfl ?_
      refine lNil ?_
      exact kRoundX (i + 1) (⟨by omega, fun j hl => by rcases Nat.lt_or_ge j i with h | h; (· exact hj j h); (obtain rfl : j = i := by omega); exact hsk⟩) (by omega) rfl (.c rfl .n) (.c rfl (.c rfl .n)) (.c 1 rfl .n)
    · by_cases k1 : spn 32 x.e
      · by_cases k2 : spn 32 x.n
        · by_cases k3 : 0 ≤ x.day ∧ x.day ≤ 65536
          · refine kRegion rfl ?_
            refine lV (yFieldAddr rfl F37_0) rfl rfl ?_
            refine lV (yLoadA (vs := [_, _]) rfl A24 (cOwn 0 rfl rfl)) rfl rfl ?_
            refine lV (yCall rfl (.c rfl (.c rfl (.c rfl .n))) C20 (fun w hw => refspan_any x.e 0 32 w)) rfl rfl ?_
            refine knownB (t := 19) (c := true) rfl (decide_eq_true (by first | exact hs.1 | exact k1)) ?_
            refine lV (yNot rfl) rfl rfl ?_
            refine lV (yMove rfl) rfl rfl ?_
            refine lGY rfl rfl rfl (oV (yFieldAddr rfl F37_1) rfl ?_)
            refine lGY rfl rfl rfl (oV (yLoadA (vs := [_, _]) rfl A24 (cOwn 0 rfl rfl)) rfl ?_)
            refine lGY rfl rfl rfl (oV (yCall rfl (.c rfl (.c rfl (.c rfl .n))) C20 (fun w hw => refspan_any x.n 0 32 w)) rfl ?_)
            refine knownB (t := 24) (c := true) rfl (decide_eq_true (by first | exact hs.2.1 | exact k2)) ?_
            refine lGY rfl rfl rfl (oV (yNot rfl) rfl ?_)
            refine lV (yPickF rfl rfl) rfl rfl ?_
            refine lV (yMove rfl) rfl rfl ?_
            refine lGY rfl rfl rfl (oV (yFieldAddr rfl F37_2) rfl ?_)
            refine lGY rfl rfl rfl (oV (yLoad1 rfl O3 (cOwn 0 rfl rfl)) rfl ?_)
            refine lGY rfl rfl rfl (oV (yCall rfl (.c rfl (.c rfl (.c rfl .n))) C21 (fun w hw => refin10_any _ _ _ w)) rfl ?_)
            refine knownB (t := 30) (c := true) rfl (decide_eq_true (by first | exact hs.2.2.1 | exact k3)) ?_
            refine lGY rfl rfl rfl (oV (yNot rfl) rfl ?_)
            refine lV (yPickF rfl rfl) rfl rfl ?_
            refine lV (yMove rfl) rfl rfl ?_
            refine lGY rfl rfl rfl (oV (yFieldAddr rfl F37_3) rfl ?_)
            refine lGY rfl rfl rfl (oV (yLoad1 rfl O3 (cOwn 0 rfl rfl)) rfl ?_)
            refine lGY rfl rfl rfl (oV (yCall rfl (.c rfl (.c rfl (.c rfl .n))) C21 (fun w hw => refin10_any _ _ _ w)) rfl ?_)
            refine knownB (t := 36) (c := false) rfl (decide_eq_false fun k4 => hs ⟨k1, k2, k3, k4⟩) ?_
            refine lGY rfl rfl rfl (oV (yNot rfl) rfl ?_)
            refine lV (yPickF rfl rfl) rfl rfl ?_
            refine lNil ?_
            refine kThen ?_
            refine kIfT rfl ?_
            refine kSeq ?_
            refine kRegion rfl ?_
            refine lV (yAssign rfl) rfl rfl ?_
            refine lNil ?_
            refine kThen ?_
            refine kRet ?_
            refine kInR ?_
            refine kThenR ?_
            refine kThenR ?_
            refine kInR ?_
            refine kThenR ?_
            refine fRet rfl (.t rfl .n) (endRet ?_)
            first | (rw [decide_eq_false hF]; rfl) | (rw [decide_eq_false fun hF => hs (hF.a x hxm)]; rfl)
          · refine kRegion rfl ?_
            refine lV (yFieldAddr rfl F37_0) rfl rfl ?_
            refine lV (yLoadA (vs := [_, _]) rfl A24 (cOwn 0 rfl rfl)) rfl rfl ?_
            refine lV (yCall rfl (.c rfl (.c rfl (.c rfl .n))) C20 (fun w hw => refspan_any x.e 0 32 w)) rfl rfl ?_
            refine knownB (t := 19) (c := true) rfl (decide_eq_true (by first | exact hs.1 | exact k1)) ?_
            refine lV (yNot rfl) rfl rfl ?_
            refine lV (yMove rfl) rfl rfl ?_
            refine lGY rfl rfl rfl (oV (yFieldAddr rfl F37_1) rfl ?_)
            refine lGY rfl rfl rfl (oV (yLoadA (vs := [_, _]) rfl A24 (cOwn 0 rfl rfl)) rfl ?_)
            refine lGY rfl rfl rfl (oV (yCall rfl (.c rfl (.c rfl (.c rfl .n))) C20 (fun w hw => refspan_any x.n 0 32 w)) rfl ?_)
            refine knownB (t := 24) (c := true) rfl (decide_eq_true (by first | exact hs.2.1 | exact k2)) ?_
            refine lGY rfl rfl rfl (oV (yNot rfl) rfl ?_)
            refine lV (yPickF rfl rfl) rfl rfl ?_
            refine lV (yMove rfl) rfl rfl ?_
            refine lGY rfl rfl rfl (oV (yFieldAddr rfl F37_2) rfl ?_)
            refine lGY rfl rfl rfl (oV (yLoad1 rfl O3 (cOwn 0 rfl rfl)) rfl ?_)
            refine lGY rfl rfl rfl (oV (yCall rfl (.c rfl (.c rfl (.c rfl .n))) C21 (fun w hw => refin10_any _ _ _ w)) rfl ?_)
            refine knownB (t := 30) (c := false) rfl (decide_eq_false k3) ?_
            refine lGY rfl rfl rfl (oV (yNot rfl) rfl ?_)
            refine lV (yPickF rfl rfl) rfl rfl ?_
            refine lV (yMove rfl) rfl rfl ?_
            refine lGN rfl rfl rfl rfl rfl ?_
            refine lGN rfl rfl rfl rfl rfl ?_
            refine lGN rfl rfl rfl rfl rfl ?_
            refine lGN rfl rfl rfl rfl rfl ?_
            refine lV (yPickT rfl rfl) rfl rfl ?_
            refine lNil ?_
            refine kThen ?_
            refine kIfT rfl ?_
            refine kSeq ?_
            refine kRegion rfl ?_
            refine lV (yAssign rfl) rfl rfl ?_
            refine lNil ?_
            refine kThen ?_
            refine kRet ?_
            refine kInR ?_
            refine kThenR ?_
            refine kThenR ?_
            refine kInR ?_
            refine kThenR ?_
            refine fRet rfl (.t rfl .n) (endRet ?_)
            first | (rw [decide_eq_false hF]; rfl) | (rw [decide_eq_false fun hF => hs (hF.a x hxm)]; rfl)
        · refine kRegion rfl ?_
          refine lV (yFieldAddr rfl F37_0) rfl rfl ?_
          refine lV (yLoadA (vs := [_, _]) rfl A24 (cOwn 0 rfl rfl)) rfl rfl ?_
          refine lV (yCall rfl (.c rfl (.c rfl (.c rfl .n))) C20 (fun w hw => refspan_any x.e 0 32 w)) rfl rfl ?_
          refine knownB (t := 19) (c := true) rfl (decide_eq_true (by first | exact hs.1 | exact k1)) ?_
          refine lV (yNot rfl) rfl rfl ?_
          refine lV (yMove rfl) rfl rfl ?_
          refine lGY rfl rfl rfl (oV (yFieldAddr rfl F37_1) rfl ?_)
          refine lGY rfl rfl rfl (oV (yLoadA (vs := [_, _]) rfl A24 (cOwn 0 rfl rfl)) rfl ?_)
          refine lGY rfl rfl rfl (oV (yCall rfl (.c rfl (.c rfl (.c rfl .n))) C20 (fun w hw => refspan_any x.n 0 32 w)) rfl ?_)
          refine knownB (t := 24) (c := false) rfl (decide_eq_false k2) ?_
          refine lGY rfl rfl rfl (oV (yNot rfl) rfl ?_)
          refine lV (yPickF rfl rfl) rfl rfl ?_
          refine lV (yMove rfl) rfl rfl ?_
          refine lGN rfl rfl rfl rfl rfl ?_
          refine lGN rfl rfl rfl rfl rfl ?_
          refine lGN rfl rfl rfl rfl rfl ?_
          refine lGN rfl rfl rfl rfl rfl ?_
          refine lV (yPickT rfl rfl) rfl rfl ?_
          refine lV (yMove rfl) rfl rfl ?_
          refine lGN rfl rfl rfl rfl rfl ?_
          refine lGN rfl rfl rfl rfl rfl ?_
          refine lGN rfl rfl rfl rfl rfl ?_
          refine lGN rfl rfl rfl rfl rfl ?_
          refine lV (yPickT rfl rfl) rfl rfl ?_
          refine lNil ?_
          refine kThen ?_
          refine kIfT rfl ?_
          refine kSeq ?_
          refine kRegion rfl ?_
          refine lV (yAssign rfl) rfl rfl ?_
          refine lNil ?_
          refine kThen ?_
          refine kRet ?_
          refine kInR ?_
          refine kThenR ?_
          refine kThenR ?_
          refine kInR ?_
          refine kThenR ?_
          refine fRet rfl (.t rfl .n) (endRet ?_)
          first | (rw [decide_eq_false hF]; rfl) | (rw [decide_eq_false fun hF => hs (hF.a x hxm)]; rfl)
      · refine kRegion rfl ?_
        refine lV (yFieldAddr rfl F37_0) rfl rfl ?_
        refine lV (yLoadA (vs := [_, _]) rfl A24 (cOwn 0 rfl rfl)) rfl rfl ?_
        refine lV (yCall rfl (.c rfl (.c rfl (.c rfl .n))) C20 (fun w hw => refspan_any x.e 0 32 w)) rfl rfl ?_
        refine knownB (t := 19) (c := false) rfl (decide_eq_false k1) ?_
        refine lV (yNot rfl) rfl rfl ?_
        refine lV (yMove rfl) rfl rfl ?_
        refine lGN rfl rfl rfl rfl rfl ?_
        refine lGN rfl rfl rfl rfl rfl ?_
        refine lGN rfl rfl rfl rfl rfl ?_
        refine lGN rfl rfl rfl rfl rfl ?_
        refine lV (yPickT rfl rfl) rfl rfl ?_
        refine lV (yMove rfl) rfl rfl ?_
        refine lGN rfl rfl rfl rfl rfl ?_
        refine lGN rfl rfl rfl rfl rfl ?_
        refine lGN rfl rfl rfl rfl rfl ?_
        refine lGN rfl rfl rfl rfl rfl ?_
        refine lV (yPickT rfl rfl) rfl rfl ?_
        refine lV (yMove rfl) rfl rfl ?_
        refine lGN rfl rfl rfl rfl rfl ?_
        refine lGN rfl rfl rfl rfl rfl ?_
        refine lGN rfl rfl rfl rfl rfl ?_
        refine lGN rfl rfl rfl rfl rfl ?_
        refine lV (yPickT rfl rfl) rfl rfl ?_
        refine lNil ?_
        refine kThen ?_
        refine kIfT rfl ?_
        refine kSeq ?_
        refine kRegion rfl ?_
        refine lV (yAssign rfl) rfl rfl ?_
        refine lNil ?_
        refine kThen ?_
        refine kRet ?_
        refine kInR ?_
        refine kThenR ?_
        refine kThenR ?_
        refine kInR ?_
        refine kThenR ?_
        refine fRet rfl (.t rfl .n) (endRet ?_)
        first | (rw [decide_eq_false hF]; rfl) | (rw [decide_eq_false fun hF => hs (hF.a x hxm)]; rfl)
  · refine kIfF rfl ?_
    refine kExit ?_
    refine kThenX ?_
    refine kThenX ?_
    refine kInX ?_
    refine kThen ?_
    refine kSeq ?_
    refine kSeq ?_
    by_cases hF : FldOk f
    · have hall : ∀ x ∈ f.ps, skyOk x := fun x hx => by
        obtain ⟨q, hq, rfl⟩ := List.mem_iff_getElem.1 hx
        have := hj q (by omega)
        rwa [← List.getElem_eq_getD (h := hq)] at this
      refine kRegion rfl ?_
      refine lV (yFieldAddr rfl F30_0) rfl rfl ?_
      refine lV (yLoad1 rfl O28 (cOwn 0 rfl rfl)) rfl rfl ?_
      refine lV (yLen rfl S28) rfl rfl ?_
      refine lV (yGtr rfl rfl) rfl rfl ?_
      refine knownN (t := 42) rfl (by first | omega | (have := hF.l; omega)) ?_
      refine lV (yMove rfl) rfl rfl ?_
      refine lGY rfl rfl rfl (oV (yFieldAddr rfl F30_1) rfl ?_)
      refine lGY rfl rfl rfl (oV (yLoadA (vs := [_, _]) rfl A24 (cOwn 0 rfl rfl)) rfl ?_)
      refine lGY rfl rfl rfl (oV (yCall rfl (.c rfl (.c rfl (.c rfl .n))) C20 (fun w hw => refspan_any f.e 0 32 w)) rfl ?_)
      refine knownB (t := 46) (c := true) rfl (decide_eq_true (by first | exact hF.e | exact hE)) ?_
      refine lGY rfl rfl rfl (oV (yNot rfl) rfl ?_)
      refine lV (yPickF rfl rfl) rfl rfl ?_
      refine lV (yMove rfl) rfl rfl ?_
      refine lGY rfl rfl rfl (oV (yFieldAddr rfl F30_2) rfl ?_)
      refine lGY rfl rfl rfl (oV (yLoadA (vs := [_, _]) rfl A24 (cOwn 0 rfl rfl)) rfl ?_)
      refine lGY rfl rfl rfl (oV (yCall rfl (.c rfl (.c rfl (.c rfl .n))) C20 (fun w hw => refspan_any f.n 0 32 w)) rfl ?_)
      refine knownB (t := 52) (c := true) rfl (decide_eq_true (by first | exact hF.n | exact hN)) ?_
      refine lGY rfl rfl rfl (oV (yNot rfl) rfl ?_)
      refine lV (yPickF rfl rfl) rfl rfl ?_
      refine lV (yMove rfl) rfl rfl ?_
      refine lGY rfl rfl rfl (oV (yFieldAddr rfl F30_3) rfl ?_)
      refine lGY rfl rfl rfl (oV (yLoadA (vs := [_, _]) rfl A24 (cOwn 0 rfl rfl)) rfl ?_)
      refine lGY rfl rfl rfl (oV (yCall rfl (.c rfl (.c rfl (.c rfl .n))) C20 (fun w hw => refspan_any f.d 0 65536 w)) rfl ?_)
      refine knownB (t := 58) (c := true) rfl (decide_eq_true (by first | exact hF.d | exact hD)) ?_
      refine lGY rfl rfl rfl (oV (yNot rfl) rfl ?_)
      refine lV (yPickF rfl rfl) rfl rfl ?_
      refine lNil ?_
      refine kThen ?_
      refine kIfF rfl ?_
      refine kSkip ?_
      refine kThen ?_
      refine kSeq ?_
      refine kRegion rfl ?_
      refine lV (yFieldAddr rfl F30_4) rfl rfl ?_
      refine lV (yLoad1 rfl O3 (cOwn 0 rfl rfl)) rfl rfl ?_
      refine lV (yCall rfl (.c rfl (.c rfl (.c rfl .n))) C21 (fun w hw => refin10_any _ _ _ w)) rfl rfl ?_
      refine knownB (t := 63) (c := true) rfl (decide_eq_true (by first | exact hF.dep | exact hP)) ?_
      refine lV (yMove rfl) rfl rfl ?_
      refine lGY rfl rfl rfl (oV (yFieldAddr rfl F30_5) rfl ?_)
      refine lGY rfl rfl rfl (oV (yLoad1 rfl O3 (cOwn 0 rfl rfl)) rfl ?_)
      refine lGY rfl rfl rfl (oV (yCall rfl (.c rfl (.c rfl (.c rfl .n))) C21 (fun w hw => refin10_any _ _ _ w)) rfl ?_)
      refine knownB (t := 67) (c := true) rfl (decide_eq_true (by first | exact hF.t | exact hT)) ?_
      refine lV (yPickT rfl rfl) rfl rfl ?_
      refine lV (yMove rfl) rfl rfl ?_
      refine lGY rfl rfl rfl (oV (yFieldAddr rfl F30_6) rfl ?_)
      refine lGY rfl rfl rfl (oV (yLoad1 rfl O3 (cOwn 0 rfl rfl)) rfl ?_)
      refine lGY rfl rfl rfl (oV (yCall rfl (.c rfl (.c rfl (.c rfl .n))) C21 (fun w hw => refin10_any _ _ _ w)) rfl ?_)
      refine knownB (t := 72) (c := true) rfl (decide_eq_true hF.g) ?_
      refine lV (yPickT rfl rfl) rfl rfl ?_
      refine lV (yAssign rfl) rfl rfl ?_
      refine lNil ?_
      refine kThen ?_
      refine kRet ?_
      refine fRet rfl (.t rfl .n) (endRet ?_)
      rw [decide_eq_true hF]; rfl
    · by_cases hL : f.ps.length ≤ 12
      · by_cases hE : spn 32 f.e
        · by_cases hN : spn 32 f.n
          · by_cases hD : spn 65536 f.d
            · by_cases hP : 0 ≤ f.depth ∧ f.depth ≤ 100
              · by_cases hT : 1 ≤ f.times ∧ f.times ≤ 4
                · have hall : ∀ x ∈ f.ps, skyOk x := fun x hx => by
                    obtain ⟨q, hq, rfl⟩ := List.mem_iff_getElem.1 hx
                    have := hj q (by omega)
                    rwa [← List.getElem_eq_getD (h := hq)] at this
                  refine kRegion rfl ?_
                  refine lV (yFieldAddr rfl F30_0) rfl rfl ?_
                  refine lV (yLoad1 rfl O28 (cOwn 0 rfl rfl)) rfl rfl ?_
                  refine lV (yLen rfl S28) rfl rfl ?_
                  refine lV (yGtr rfl rfl) rfl rfl ?_
                  refine knownN (t := 42) rfl (by first | omega | (have := hF.l; omega)) ?_
                  refine lV (yMove rfl) rfl rfl ?_
                  refine lGY rfl rfl rfl (oV (yFieldAddr rfl F30_1) rfl ?_)
                  refine lGY rfl rfl rfl (oV (yLoadA (vs := [_, _]) rfl A24 (cOwn 0 rfl rfl)) rfl ?_)
                  refine lGY rfl rfl rfl (oV (yCall rfl (.c rfl (.c rfl (.c rfl .n))) C20 (fun w hw => refspan_any f.e 0 32 w)) rfl ?_)
                  refine knownB (t := 46) (c := true) rfl (decide_eq_true (by first | exact hF.e | exact hE)) ?_
                  refine lGY rfl rfl rfl (oV (yNot rfl) rfl ?_)
                  refine lV (yPickF rfl rfl) rfl rfl ?_
                  refine lV (yMove rfl) rfl rfl ?_
                  refine lGY rfl rfl rfl (oV (yFieldAddr rfl F30_2) rfl ?_)
                  refine lGY rfl rfl rfl (oV (yLoadA (vs := [_, _]) rfl A24 (cOwn 0 rfl rfl)) rfl ?_)
                  refine lGY rfl rfl rfl (oV (yCall rfl (.c rfl (.c rfl (.c rfl .n))) C20 (fun w hw => refspan_any f.n 0 32 w)) rfl ?_)
                  refine knownB (t := 52) (c := true) rfl (decide_eq_true (by first | exact hF.n | exact hN)) ?_
                  refine lGY rfl rfl rfl (oV (yNot rfl) rfl ?_)
                  refine lV (yPickF rfl rfl) rfl rfl ?_
                  refine lV (yMove rfl) rfl rfl ?_
                  refine lGY rfl rfl rfl (oV (yFieldAddr rfl F30_3) rfl ?_)
                  refine lGY rfl rfl rfl (oV (yLoadA (vs := [_, _]) rfl A24 (cOwn 0 rfl rfl)) rfl ?_)
                  refine lGY rfl rfl rfl (oV (yCall rfl (.c rfl (.c rfl (.c rfl .n))) C20 (fun w hw => refspan_any f.d 0 65536 w)) rfl ?_)
                  refine knownB (t := 58) (c := true) rfl (decide_eq_true (by first | exact hF.d | exact hD)) ?_
                  refine lGY rfl rfl rfl (oV (yNot rfl) rfl ?_)
                  refine lV (yPickF rfl rfl) rfl rfl ?_
                  refine lNil ?_
                  refine kThen ?_
                  refine kIfF rfl ?_
                  refine kSkip ?_
                  refine kThen ?_
                  refine kSeq ?_
                  refine kRegion rfl ?_
                  refine lV (yFieldAddr rfl F30_4) rfl rfl ?_
                  refine lV (yLoad1 rfl O3 (cOwn 0 rfl rfl)) rfl rfl ?_
                  refine lV (yCall rfl (.c rfl (.c rfl (.c rfl .n))) C21 (fun w hw => refin10_any _ _ _ w)) rfl rfl ?_
                  refine knownB (t := 63) (c := true) rfl (decide_eq_true (by first | exact hF.dep | exact hP)) ?_
                  refine lV (yMove rfl) rfl rfl ?_
                  refine lGY rfl rfl rfl (oV (yFieldAddr rfl F30_5) rfl ?_)
                  refine lGY rfl rfl rfl (oV (yLoad1 rfl O3 (cOwn 0 rfl rfl)) rfl ?_)
                  refine lGY rfl rfl rfl (oV (yCall rfl (.c rfl (.c rfl (.c rfl .n))) C21 (fun w hw => refin10_any _ _ _ w)) rfl ?_)
                  refine knownB (t := 67) (c := true) rfl (decide_eq_true (by first | exact hF.t | exact hT)) ?_
                  refine lV (yPickT rfl rfl) rfl rfl ?_
                  refine lV (yMove rfl) rfl rfl ?_
                  refine lGY rfl rfl rfl (oV (yFieldAddr rfl F30_6) rfl ?_)
                  refine lGY rfl rfl rfl (oV (yLoad1 rfl O3 (cOwn 0 rfl rfl)) rfl ?_)
                  refine lGY rfl rfl rfl (oV (yCall rfl (.c rfl (.c rfl (.c rfl .n))) C21 (fun w hw => refin10_any _ _ _ w)) rfl ?_)
                  refine knownB (t := 72) (c := false) rfl (decide_eq_false fun hg => hF ⟨hE, hN, hD, hP, hT, hg, hL, hall⟩) ?_
                  refine lV (yPickT rfl rfl) rfl rfl ?_
                  refine lV (yAssign rfl) rfl rfl ?_
                  refine lNil ?_
                  refine kThen ?_
                  refine kRet ?_
                  refine fRet rfl (.t rfl .n) (endRet ?_)
                  first | (rw [decide_eq_false hF]; rfl) | (rw [decide_eq_false fun hF => hs (hF.a x hxm)]; rfl)
                · have hall : ∀ x ∈ f.ps, skyOk x := fun x hx => by
                    obtain ⟨q, hq, rfl⟩ := List.mem_iff_getElem.1 hx
                    have := hj q (by omega)
                    rwa [← List.getElem_eq_getD (h := hq)] at this
                  refine kRegion rfl ?_
                  refine lV (yFieldAddr rfl F30_0) rfl rfl ?_
                  refine lV (yLoad1 rfl O28 (cOwn 0 rfl rfl)) rfl rfl ?_
                  refine lV (yLen rfl S28) rfl rfl ?_
                  refine lV (yGtr rfl rfl) rfl rfl ?_
                  refine knownN (t := 42) rfl (by first | omega | (have := hF.l; omega)) ?_
                  refine lV (yMove rfl) rfl rfl ?_
                  refine lGY rfl rfl rfl (oV (yFieldAddr rfl F30_1) rfl ?_)
                  refine lGY rfl rfl rfl (oV (yLoadA (vs := [_, _]) rfl A24 (cOwn 0 rfl rfl)) rfl ?_)
                  refine lGY rfl rfl rfl (oV (yCall rfl (.c rfl (.c rfl (.c rfl .n))) C20 (fun w hw => refspan_any f.e 0 32 w)) rfl ?_)
                  refine knownB (t := 46) (c := true) rfl (decide_eq_true (by first | exact hF.e | exact hE)) ?_
                  refine lGY rfl rfl rfl (oV (yNot rfl) rfl ?_)
                  refine lV (yPickF rfl rfl) rfl rfl ?_
                  refine lV (yMove rfl) rfl rfl ?_
                  refine lGY rfl rfl rfl (oV (yFieldAddr rfl F30_2) rfl ?_)
                  refine lGY rfl rfl rfl (oV (yLoadA (vs := [_, _]) rfl A24 (cOwn 0 rfl rfl)) rfl ?_)
                  refine lGY rfl rfl rfl (oV (yCall rfl (.c rfl (.c rfl (.c rfl .n))) C20 (fun w hw => refspan_any f.n 0 32 w)) rfl ?_)
                  refine knownB (t := 52) (c := true) rfl (decide_eq_true (by first | exact hF.n | exact hN)) ?_
                  refine lGY rfl rfl rfl (oV (yNot rfl) rfl ?_)
                  refine lV (yPickF rfl rfl) rfl rfl ?_
                  refine lV (yMove rfl) rfl rfl ?_
                  refine lGY rfl rfl rfl (oV (yFieldAddr rfl F30_3) rfl ?_)
                  refine lGY rfl rfl rfl (oV (yLoadA (vs := [_, _]) rfl A24 (cOwn 0 rfl rfl)) rfl ?_)
                  refine lGY rfl rfl rfl (oV (yCall rfl (.c rfl (.c rfl (.c rfl .n))) C20 (fun w hw => refspan_any f.d 0 65536 w)) rfl ?_)
                  refine knownB (t := 58) (c := true) rfl (decide_eq_true (by first | exact hF.d | exact hD)) ?_
                  refine lGY rfl rfl rfl (oV (yNot rfl) rfl ?_)
                  refine lV (yPickF rfl rfl) rfl rfl ?_
                  refine lNil ?_
                  refine kThen ?_
                  refine kIfF rfl ?_
                  refine kSkip ?_
                  refine kThen ?_
                  refine kSeq ?_
                  refine kRegion rfl ?_
                  refine lV (yFieldAddr rfl F30_4) rfl rfl ?_
                  refine lV (yLoad1 rfl O3 (cOwn 0 rfl rfl)) rfl rfl ?_
                  refine lV (yCall rfl (.c rfl (.c rfl (.c rfl .n))) C21 (fun w hw => refin10_any _ _ _ w)) rfl rfl ?_
                  refine knownB (t := 63) (c := true) rfl (decide_eq_true (by first | exact hF.dep | exact hP)) ?_
                  refine lV (yMove rfl) rfl rfl ?_
                  refine lGY rfl rfl rfl (oV (yFieldAddr rfl F30_5) rfl ?_)
                  refine lGY rfl rfl rfl (oV (yLoad1 rfl O3 (cOwn 0 rfl rfl)) rfl ?_)
                  refine lGY rfl rfl rfl (oV (yCall rfl (.c rfl (.c rfl (.c rfl .n))) C21 (fun w hw => refin10_any _ _ _ w)) rfl ?_)
                  refine knownB (t := 67) (c := false) rfl (decide_eq_false hT) ?_
                  refine lV (yPickT rfl rfl) rfl rfl ?_
                  refine lV (yMove rfl) rfl rfl ?_
                  refine lGN rfl rfl rfl rfl rfl ?_
                  refine lGN rfl rfl rfl rfl rfl ?_
                  refine lGN rfl rfl rfl rfl rfl ?_
                  refine lV (yPickF rfl rfl) rfl rfl ?_
                  refine lV (yAssign rfl) rfl rfl ?_
                  refine lNil ?_
                  refine kThen ?_
                  refine kRet ?_
                  refine fRet rfl (.t rfl .n) (endRet ?_)
                  first | (rw [decide_eq_false hF]; rfl) | (rw [decide_eq_false fun hF => hs (hF.a x hxm)]; rfl)
              · have hall : ∀ x ∈ f.ps, skyOk x := fun x hx => by
                  obtain ⟨q, hq, rfl⟩ := List.mem_iff_getElem.1 hx
                  have := hj q (by omega)
                  rwa [← List.getElem_eq_getD (h := hq)] at this
                refine kRegion rfl ?_
                refine lV (yFieldAddr rfl F30_0) rfl rfl ?_
                refine lV (yLoad1 rfl O28 (cOwn 0 rfl rfl)) rfl rfl ?_
                refine lV (yLen rfl S28) rfl rfl ?_
                refine lV (yGtr rfl rfl) rfl rfl ?_
                refine knownN (t := 42) rfl (by first | omega | (have := hF.l; omega)) ?_
                refine lV (yMove rfl) rfl rfl ?_
                refine lGY rfl rfl rfl (oV (yFieldAddr rfl F30_1) rfl ?_)
                refine lGY rfl rfl rfl (oV (yLoadA (vs := [_, _]) rfl A24 (cOwn 0 rfl rfl)) rfl ?_)
                refine lGY rfl rfl rfl (oV (yCall rfl (.c rfl (.c rfl (.c rfl .n))) C20 (fun w hw => refspan_any f.e 0 32 w)) rfl ?_)
                refine knownB (t := 46) (c := true) rfl (decide_eq_true (by first | exact hF.e | exact hE)) ?_
                refine lGY rfl rfl rfl (oV (yNot rfl) rfl ?_)
                refine lV (yPickF rfl rfl) rfl rfl ?_
                refine lV (yMove rfl) rfl rfl ?_
                refine lGY rfl rfl rfl (oV (yFieldAddr rfl F30_2) rfl ?_)
                refine lGY rfl rfl rfl (oV (yLoadA (vs := [_, _]) rfl A24 (cOwn 0 rfl rfl)) rfl ?_)
                refine lGY rfl rfl rfl (oV (yCall rfl (.c rfl (.c rfl (.c rfl .n))) C20 (fun w hw => refspan_any f.n 0 32 w)) rfl ?_)
                refine knownB (t := 52) (c := true) rfl (decide_eq_true (by first | exact hF.n | exact hN)) ?_
                refine lGY rfl rfl rfl (oV (yNot rfl) rfl ?_)
                refine lV (yPickF rfl rfl) rfl rfl ?_
                refine lV (yMove rfl) rfl rfl ?_
                refine lGY rfl rfl rfl (oV (yFieldAddr rfl F30_3) rfl ?_)
                refine lGY rfl rfl rfl (oV (yLoadA (vs := [_, _]) rfl A24 (cOwn 0 rfl rfl)) rfl ?_)
                refine lGY rfl rfl rfl (oV (yCall rfl (.c rfl (.c rfl (.c rfl .n))) C20 (fun w hw => refspan_any f.d 0 65536 w)) rfl ?_)
                refine knownB (t := 58) (c := true) rfl (decide_eq_true (by first | exact hF.d | exact hD)) ?_
                refine lGY rfl rfl rfl (oV (yNot rfl) rfl ?_)
                refine lV (yPickF rfl rfl) rfl rfl ?_
                refine lNil ?_
                refine kThen ?_
                refine kIfF rfl ?_
                refine kSkip ?_
                refine kThen ?_
                refine kSeq ?_
                refine kRegion rfl ?_
                refine lV (yFieldAddr rfl F30_4) rfl rfl ?_
                refine lV (yLoad1 rfl O3 (cOwn 0 rfl rfl)) rfl rfl ?_
                refine lV (yCall rfl (.c rfl (.c rfl (.c rfl .n))) C21 (fun w hw => refin10_any _ _ _ w)) rfl rfl ?_
                refine knownB (t := 63) (c := false) rfl (decide_eq_false hP) ?_
                refine lV (yMove rfl) rfl rfl ?_
                refine lGN rfl rfl rfl rfl rfl ?_
                refine lGN rfl rfl rfl rfl rfl ?_
                refine lGN rfl rfl rfl rfl rfl ?_
                refine lV (yPickF rfl rfl) rfl rfl ?_
                refine lV (yMove rfl) rfl rfl ?_
                refine lGN rfl rfl rfl rfl rfl ?_
                refine lGN rfl rfl rfl rfl rfl ?_
                refine lGN rfl rfl rfl rfl rfl ?_
                refine lV (yPickF rfl rfl) rfl rfl ?_
                refine lV (yAssign rfl) rfl rfl ?_
                refine lNil ?_
                refine kThen ?_
                refine kRet ?_
                refine fRet rfl (.t rfl .n) (endRet ?_)
                first | (rw [decide_eq_false hF]; rfl) | (rw [decide_eq_false fun hF => hs (hF.a x hxm)]; rfl)
            · have hall : ∀ x ∈ f.ps, skyOk x := fun x hx => by
                obtain ⟨q, hq, rfl⟩ := List.mem_iff_getElem.1 hx
                have := hj q (by omega)
                rwa [← List.getElem_eq_getD (h := hq)] at this
              refine kRegion rfl ?_
              refine lV (yFieldAddr rfl F30_0) rfl rfl ?_
              refine lV (yLoad1 rfl O28 (cOwn 0 rfl rfl)) rfl rfl ?_
              refine lV (yLen rfl S28) rfl rfl ?_
              refine lV (yGtr rfl rfl) rfl rfl ?_
              refine knownN (t := 42) rfl (by first | omega | (have := hF.l; omega)) ?_
              refine lV (yMove rfl) rfl rfl ?_
              refine lGY rfl rfl rfl (oV (yFieldAddr rfl F30_1) rfl ?_)
              refine lGY rfl rfl rfl (oV (yLoadA (vs := [_, _]) rfl A24 (cOwn 0 rfl rfl)) rfl ?_)
              refine lGY rfl rfl rfl (oV (yCall rfl (.c rfl (.c rfl (.c rfl .n))) C20 (fun w hw => refspan_any f.e 0 32 w)) rfl ?_)
              refine knownB (t := 46) (c := true) rfl (decide_eq_true (by first | exact hF.e | exact hE)) ?_
              refine lGY rfl rfl rfl (oV (yNot rfl) rfl ?_)
              refine lV (yPickF rfl rfl) rfl rfl ?_
              refine lV (yMove rfl) rfl rfl ?_
              refine lGY rfl rfl rfl (oV (yFieldAddr rfl F30_2) rfl ?_)
              refine lGY rfl rfl rfl (oV (yLoadA (vs := [_, _]) rfl A24 (cOwn 0 rfl rfl)) rfl ?_)
              refine lGY rfl rfl rfl (oV (yCall rfl (.c rfl (.c rfl (.c rfl .n))) C20 (fun w hw => refspan_any f.n 0 32 w)) rfl ?_)
              refine knownB (t := 52) (c := true) rfl (decide_eq_true (by first | exact hF.n | exact hN)) ?_
              refine lGY rfl rfl rfl (oV (yNot rfl) rfl ?_)
              refine lV (yPickF rfl rfl) rfl rfl ?_
              refine lV (yMove rfl) rfl rfl ?_
              refine lGY rfl rfl rfl (oV (yFieldAddr rfl F30_3) rfl ?_)
              refine lGY rfl rfl rfl (oV (yLoadA (vs := [_, _]) rfl A24 (cOwn 0 rfl rfl)) rfl ?_)
              refine lGY rfl rfl rfl (oV (yCall rfl (.c rfl (.c rfl (.c rfl .n))) C20 (fun w hw => refspan_any f.d 0 65536 w)) rfl ?_)
              refine knownB (t := 58) (c := false) rfl (decide_eq_false hD) ?_
              refine lGY rfl rfl rfl (oV (yNot rfl) rfl ?_)
              refine lV (yPickF rfl rfl) rfl rfl ?_
              refine lNil ?_
              refine kThen ?_
              refine kIfT rfl ?_
              refine kSeq ?_
              refine kRegion rfl ?_
              refine lV (yAssign rfl) rfl rfl ?_
              refine lNil ?_
              refine kThen ?_
              refine kRet ?_
              refine kThenR ?_
              refine fRet rfl (.t rfl .n) (endRet ?_)
              first | (rw [decide_eq_false hF]; rfl) | (rw [decide_eq_false fun hF => hs (hF.a x hxm)]; rfl)
          · have hall : ∀ x ∈ f.ps, skyOk x := fun x hx => by
              obtain ⟨q, hq, rfl⟩ := List.mem_iff_getElem.1 hx
              have := hj q (by omega)
              rwa [← List.getElem_eq_getD (h := hq)] at this
            refine kRegion rfl ?_
            refine lV (yFieldAddr rfl F30_0) rfl rfl ?_
            refine lV (yLoad1 rfl O28 (cOwn 0 rfl rfl)) rfl rfl ?_
            refine lV (yLen rfl S28) rfl rfl ?_
            refine lV (yGtr rfl rfl) rfl rfl ?_
            refine knownN (t := 42) rfl (by first | omega | (have := hF.l; omega)) ?_
            refine lV (yMove rfl) rfl rfl ?_
            refine lGY rfl rfl rfl (oV (yFieldAddr rfl F30_1) rfl ?_)
            refine lGY rfl rfl rfl (oV (yLoadA (vs := [_, _]) rfl A24 (cOwn 0 rfl rfl)) rfl ?_)
            refine lGY rfl rfl rfl (oV (yCall rfl (.c rfl (.c rfl (.c rfl .n))) C20 (fun w hw => refspan_any f.e 0 32 w)) rfl ?_)
            refine knownB (t := 46) (c := true) rfl (decide_eq_true (by first | exact hF.e | exact hE)) ?_
            refine lGY rfl rfl rfl (oV (yNot rfl) rfl ?_)
            refine lV (yPickF rfl rfl) rfl rfl ?_
            refine lV (yMove rfl) rfl rfl ?_
            refine lGY rfl rfl rfl (oV (yFieldAddr rfl F30_2) rfl ?_)
            refine lGY rfl rfl rfl (oV (yLoadA (vs := [_, _]) rfl A24 (cOwn 0 rfl rfl)) rfl ?_)
            refine lGY rfl rfl rfl (oV (yCall rfl (.c rfl (.c rfl (.c rfl .n))) C20 (fun w hw => refspan_any f.n 0 32 w)) rfl ?_)
            refine knownB (t := 52) (c := false) rfl (decide_eq_false hN) ?_
            refine lGY rfl rfl rfl (oV (yNot rfl) rfl ?_)
            refine lV (yPickF rfl rfl) rfl rfl ?_
            refine lV (yMove rfl) rfl rfl ?_
            refine lGN rfl rfl rfl rfl rfl ?_
            refine lGN rfl rfl rfl rfl rfl ?_
            refine lGN rfl rfl rfl rfl rfl ?_
            refine lGN rfl rfl rfl rfl rfl ?_
            refine lV (yPickT rfl rfl) rfl rfl ?_
            refine lNil ?_
            refine kThen ?_
            refine kIfT rfl ?_
            refine kSeq ?_
            refine kRegion rfl ?_
            refine lV (yAssign rfl) rfl rfl ?_
            refine lNil ?_
            refine kThen ?_
            refine kRet ?_
            refine kThenR ?_
            refine fRet rfl (.t rfl .n) (endRet ?_)
            first | (rw [decide_eq_false hF]; rfl) | (rw [decide_eq_false fun hF => hs (hF.a x hxm)]; rfl)
        · have hall : ∀ x ∈ f.ps, skyOk x := fun x hx => by
            obtain ⟨q, hq, rfl⟩ := List.mem_iff_getElem.1 hx
            have := hj q (by omega)
            rwa [← List.getElem_eq_getD (h := hq)] at this
          refine kRegion rfl ?_
          refine lV (yFieldAddr rfl F30_0) rfl rfl ?_
          refine lV (yLoad1 rfl O28 (cOwn 0 rfl rfl)) rfl rfl ?_
          refine lV (yLen rfl S28) rfl rfl ?_
          refine lV (yGtr rfl rfl) rfl rfl ?_
          refine knownN (t := 42) rfl (by first | omega | (have := hF.l; omega)) ?_
          refine lV (yMove rfl) rfl rfl ?_
          refine lGY rfl rfl rfl (oV (yFieldAddr rfl F30_1) rfl ?_)
          refine lGY rfl rfl rfl (oV (yLoadA (vs := [_, _]) rfl A24 (cOwn 0 rfl rfl)) rfl ?_)
          refine lGY rfl rfl rfl (oV (yCall rfl (.c rfl (.c rfl (.c rfl .n))) C20 (fun w hw => refspan_any f.e 0 32 w)) rfl ?_)
          refine knownB (t := 46) (c := false) rfl (decide_eq_false hE) ?_
          refine lGY rfl rfl rfl (oV (yNot rfl) rfl ?_)
          refine lV (yPickF rfl rfl) rfl rfl ?_
          refine lV (yMove rfl) rfl rfl ?_
          refine lGN rfl rfl rfl rfl rfl ?_
          refine lGN rfl rfl rfl rfl rfl ?_
          refine lGN rfl rfl rfl rfl rfl ?_
          refine lGN rfl rfl rfl rfl rfl ?_
          refine lV (yPickT rfl rfl) rfl rfl ?_
          refine lV (yMove rfl) rfl rfl ?_
          refine lGN rfl rfl rfl rfl rfl ?_
          refine lGN rfl rfl rfl rfl rfl ?_
          refine lGN rfl rfl rfl rfl rfl ?_
          refine lGN rfl rfl rfl rfl rfl ?_
          refine lV (yPickT rfl rfl) rfl rfl ?_
          refine lNil ?_
          refine kThen ?_
          refine kIfT rfl ?_
          refine kSeq ?_
          refine kRegion rfl ?_
          refine lV (yAssign rfl) rfl rfl ?_
          refine lNil ?_
          refine kThen ?_
          refine kRet ?_
          refine kThenR ?_
          refine fRet rfl (.t rfl .n) (endRet ?_)
          first | (rw [decide_eq_false hF]; rfl) | (rw [decide_eq_false fun hF => hs (hF.a x hxm)]; rfl)
      · have hall : ∀ x ∈ f.ps, skyOk x := fun x hx => by
          obtain ⟨q, hq, rfl⟩ := List.mem_iff_getElem.1 hx
          have := hj q (by omega)
          rwa [← List.getElem_eq_getD (h := hq)] at this
        refine kRegion rfl ?_
        refine lV (yFieldAddr rfl F30_0) rfl rfl ?_
        refine lV (yLoad1 rfl O28 (cOwn 0 rfl rfl)) rfl rfl ?_
        refine lV (yLen rfl S28) rfl rfl ?_
        refine lV (yGtr rfl rfl) rfl rfl ?_
        refine known (t := 42) rfl (by omega) ?_
        refine lV (yMove rfl) rfl rfl ?_
        refine lGN rfl rfl rfl rfl rfl ?_
        refine lGN rfl rfl rfl rfl rfl ?_
        refine lGN rfl rfl rfl rfl rfl ?_
        refine lGN rfl rfl rfl rfl rfl ?_
        refine lV (yPickT rfl rfl) rfl rfl ?_
        refine lV (yMove rfl) rfl rfl ?_
        refine lGN rfl rfl rfl rfl rfl ?_
        refine lGN rfl rfl rfl rfl rfl ?_
        refine lGN rfl rfl rfl rfl rfl ?_
        refine lGN rfl rfl rfl rfl rfl ?_
        refine lV (yPickT rfl rfl) rfl rfl ?_
        refine lV (yMove rfl) rfl rfl ?_
        refine lGN rfl rfl rfl rfl rfl ?_
        refine lGN rfl rfl rfl rfl rfl ?_
        refine lGN rfl rfl rfl rfl rfl ?_
        refine lGN rfl rfl rfl rfl rfl ?_
        refine lV (yPickT rfl rfl) rfl rfl ?_
        refine lNil ?_
        refine kThen ?_
        refine kIfT rfl ?_
        refine kSeq ?_
        refine kRegion rfl ?_
        refine lV (yAssign rfl) rfl rfl ?_
        refine lNil ?_
        refine kThen ?_
        refine kRet ?_
        refine kThenR ?_
        refine fRet rfl (.t rfl .n) (endRet ?_)
        first | (rw [decide_eq_false hF]; rfl) | (rw [decide_eq_false fun hF => hs (hF.a x hxm)]; rfl)
end Go.Proofs.Ytdpeifbejeflhaa
