/-
  Walks: sets as numbers; a measure that is looked at.
-/
import Derived.Test.YtoefcofplkbnkaaWc
namespace Go.Proofs.Ytoefcofplkbnkaa
open ZW

/-- How many there are in a set. -/
def popF : Nat → Nat → Nat
  | 0, _ => 0
  | f + 1, n => n % 2 + popF f (n / 2)
def popc (n : Nat) : Nat := popF 13 n
def oc1 (s : Nat) : Nat := (s / 2 ^ 1 &&& 6148914691236517205) + (s &&& 6148914691236517205)
def oc2 (s : Nat) : Nat := (s / 2 ^ 2 &&& 3689348814741910323) + (s &&& 3689348814741910323)
def oc3 (s : Nat) : Nat := (s / 2 ^ 4 + s) &&& 1085102592571150095
def oc4 (s : Nat) : Nat := s + s / 2 ^ 8
def oc5 (s : Nat) : Nat := s + s / 2 ^ 16
def oc6 (s : Nat) : Nat := s + s / 2 ^ 32
theorem oc_popc : ∀ s, s < 8192 → (oc6 (oc5 (oc4 (oc3 (oc2 (oc1 s))))) &&& 127) = popF 13 s := by
  have h : ((List.range 8192).all fun s => (oc6 (oc5 (oc4 (oc3 (oc2 (oc1 s))))) &&& 127) == popF 13 s) = true := by kernel_rfl
  intro s hs
  simpa using List.all_eq_true.1 h s (List.mem_range.2 hs)
theorem oc1_lt {s n : Nat} (h : s < n) : oc1 s < 2 * n := by
  have h1 := Nat.and_le_left (n := s / 2 ^ 1) (m := 6148914691236517205)
  have h2 := Nat.and_le_left (n := s) (m := 6148914691236517205)
  unfold oc1; omega
theorem oc2_lt {s n : Nat} (h : s < n) : oc2 s < 2 * n := by
  have h1 := Nat.and_le_left (n := s / 2 ^ 2) (m := 3689348814741910323)
  have h2 := Nat.and_le_left (n := s) (m := 3689348814741910323)
  unfold oc2; omega
theorem oc3_lt {s n : Nat} (h : s < n) : oc3 s < 2 * n := by
  have h1 := Nat.and_le_left (n := s / 2 ^ 4 + s) (m := 1085102592571150095)
  unfold oc3; omega

set_option maxRecDepth 100000 in
theorem ones64_any (s : Nat) (w : World) (hs : s < 8192) : Calls Try.prog 98 [.int .u64 (s : Nat)].toArray w (Ret w (i64 (popF 13 s : Nat))) := by
  have h1 := oc1_lt hs
  have h2 := oc2_lt h1
  have h3 := oc3_lt h2
  have h4 : oc4 (oc3 (oc2 (oc1 s))) < 200000 := by unfold oc4; omega
  have h5 : oc5 (oc4 (oc3 (oc2 (oc1 s)))) < 400000 := by unfold oc5; omega
  have h6 : oc6 (oc5 (oc4 (oc3 (oc2 (oc1 s))))) < 800000 := by unfold oc6; omega
  have hc := oc_popc s hs
  have e1 : oc1 s = _ := rfl
  have e2 : ∀ s, oc2 s = _ := fun _ => rfl
  have q1 := Nat.and_le_left (n := s / 2 ^ 1) (m := 6148914691236517205)
  have q2 := Nat.and_le_left (n := s) (m := 6148914691236517205)
  have q3 := Nat.and_le_left (n := oc1 s / 2 ^ 2) (m := 3689348814741910323)
  have q4 := Nat.and_le_left (n := oc1 s) (m := 3689348814741910323)
  refine fEnter Try.func98 rfl Try.ntmps98 rfl ?_
  refine kSeq ?_
  refine kRegion rfl ?_
  refine lV (yAssign rfl) rfl rfl ?_
  refine lNil ?_
  refine kThen ?_
  refine kSeq ?_
  refine kRegion rfl ?_
  refine lV (yMove rfl) rfl rfl ?_
  refine lV (yShr (b := 1) rfl rfl rfl (by omega)) rfl rfl ?_
  refine lV (yAnd (b := 6148914691236517205) rfl rfl rfl (by omega) (by omega)) rfl rfl ?_
  refine lV (yMove rfl) rfl rfl ?_
  refine lV (yAnd (b := 6148914691236517205) rfl rfl rfl (by omega) (by omega)) rfl rfl ?_
  refine lV (yAddN  rfl rfl rfl (by omega)) rfl rfl ?_
  refine same (t := 8) (u := .int .u64 ((oc1 s : Nat) : Int)) rfl (rfl) ?_
  refine lV (yAssign rfl) rfl rfl ?_
  refine lNil ?_
  refine kThen ?_
  refine kSeq ?_
  refine kRegion rfl ?_
  refine lV (yMove rfl) rfl rfl ?_
  refine lV (yShr (b := 2) rfl rfl rfl (by omega)) rfl rfl ?_
  refine lV (yAnd (b := 3689348814741910323) rfl rfl rfl (by omega) (by omega)) rfl rfl ?_
  refine lV (yMove rfl) rfl rfl ?_
  refine lV (yAnd (b := 3689348814741910323) rfl rfl rfl (by omega) (by omega)) rfl rfl ?_
  refine lV (yAddN  rfl rfl rfl (by omega)) rfl rfl ?_
  refine same (t := 14) (u := .int .u64 ((oc2 (oc1 s) : Nat) : Int)) rfl (rfl) ?_
  refine lV (yAssign rfl) rfl rfl ?_
  refine lNil ?_
  refine kThen ?_
  refine kSeq ?_
  refine kRegion rfl ?_
  refine lV (yMove rfl) rfl rfl ?_
  refine lV (yShr (b := 4) rfl rfl rfl (by omega)) rfl rfl ?_
  refine lV (yMove rfl) rfl rfl ?_
  refine lV (yAddN  rfl rfl rfl (by omega)) rfl rfl ?_
  refine lV (yAnd (b := 1085102592571150095) rfl rfl rfl (by omega) (by omega)) rfl rfl ?_
  refine same (t := 19) (u := .int .u64 ((oc3 (oc2 (oc1 s)) : Nat) : Int)) rfl (rfl) ?_
  refine lV (yAssign rfl) rfl rfl ?_
  refine lNil ?_
  refine kThen ?_
  refine kSeq ?_
  refine kRegion rfl ?_
  refine lV (yMove rfl) rfl rfl ?_
  refine lV (yMove rfl) rfl rfl ?_
  refine lV (yShr (b := 8) rfl rfl rfl (by omega)) rfl rfl ?_
  refine lV (yAddN  rfl rfl rfl (by omega)) rfl rfl ?_
  refine same (t := 23) (u := .int .u64 ((oc4 (oc3 (oc2 (oc1 s))) : Nat) : Int)) rfl (rfl) ?_
  refine lV (yAssign rfl) rfl rfl ?_
  refine lNil ?_
  refine kThen ?_
  refine kSeq ?_
  refine kRegion rfl ?_
  refine lV (yMove rfl) rfl rfl ?_
  refine lV (yMove rfl) rfl rfl ?_
  refine lV (yShr (b := 16) rfl rfl rfl (by omega)) rfl rfl ?_
  refine lV (yAddN  rfl rfl rfl (by omega)) rfl rfl ?_
  refine same (t := 27) (u := .int .u64 ((oc5 (oc4 (oc3 (oc2 (oc1 s)))) : Nat) : Int)) rfl (rfl) ?_
  refine lV (yAssign rfl) rfl rfl ?_
  refine lNil ?_
  refine kThen ?_
  refine kSeq ?_
  refine kRegion rfl ?_
  refine lV (yMove rfl) rfl rfl ?_
  refine lV (yMove rfl) rfl rfl ?_
  refine lV (yShr (b := 32) rfl rfl rfl (by omega)) rfl rfl ?_
  refine lV (yAddN  rfl rfl rfl (by omega)) rfl rfl ?_
  refine same (t := 31) (u := .int .u64 ((oc6 (oc5 (oc4 (oc3 (oc2 (oc1 s))))) : Nat) : Int)) rfl (rfl) ?_
  refine lV (yAssign rfl) rfl rfl ?_
  refine lNil ?_
  refine kThen ?_
  refine kSeq ?_
  refine kRegion rfl ?_
  refine lV (yMove rfl) rfl rfl ?_
  refine lV (yConvInt rfl U129 U3 (conv_ok (by omega))) rfl rfl ?_
  refine lV (yAnd (b := 127) rfl rfl rfl (by omega) (by omega)) rfl rfl ?_
  refine lV (yAssign rfl) rfl rfl ?_
  refine lNil ?_
  refine kThen ?_
  refine kRet ?_
  refine fRet rfl (.t rfl .n) (endRet ?_)
  simp only [packV]; rw [hc]
set_option maxRecDepth 100000 in
theorem ones_any (s : Nat) (w : World) (hs : s < 8192) : Calls Try.prog 91 [.int .u64 (s : Nat)].toArray w (Ret w (i64 (popF 13 s : Nat))) := by
  refine fEnter Try.func91 rfl Try.ntmps91 rfl ?_
  refine kSeq ?_
  refine kRegion rfl ?_
  refine lV (yAssign rfl) rfl rfl ?_
  refine lNil ?_
  refine kThen ?_
  refine kSeq ?_
  refine kIfF rfl ?_
  refine kSkip ?_
  refine kThen ?_
  refine kSeq ?_
  refine kRegion rfl ?_
  refine lV (yMove rfl) rfl rfl ?_
  refine lV (yCall rfl (.c rfl .n) C98 (fun w hw => ones64_any s w hs)) rfl rfl ?_
  refine lV (yAssign rfl) rfl rfl ?_
  refine lNil ?_
  refine kThen ?_
  refine kRet ?_
  refine fRet rfl (.t rfl .n) (endRet ?_)
  rfl

/-! ### A measure that is looked at -/
abbrev tellV (t : Told) : Value := if t.2.2 = true then .iface 112 (.agg [i64 (t.1 : Nat), i64 t.2.1.1, i64 t.2.1.2].toArray) else .iface 113 (.agg [i64 (t.1 : Nat), i64 t.2.1.1, i64 t.2.1.2].toArray)
abbrev rowT (t : Told) : List Value := [tellV t]
abbrev told0 : Told := (0, (0, 0), false)
abbrev msC (y : Loc) (m : Meas) (g : Own) (n : Nat) : List Value := [.slice y.ea m.errs.length y.ec, i64 m.eye.1, i64 m.eye.2, i64 m.images, i64 m.sum.1, i64 m.sum.2, .slice y.sa m.sets.length y.sc, osV g n]
/-- In this world a measure that is looked at lies at nm. -/
structure InMs (w : World) (nm : Nat) (y : Loc) (m : Meas) (g : Own) : Prop where
  b : w.heap[nm]? = some (blk (msC y m g m.sets.length) 98)
  t : SlE w (osA g) m.sets.length 1 (fun i => rowT ((toldP m).getD i told0))
  m : InM w y m
theorem toldP_length (m : Meas) : (toldP m).length = m.sets.length := by simp [toldP]
theorem InMs.eff {w w' : World} {L : Heap} {nm : Nat} {y : Loc} {m : Meas} {g : Own} (h : InMs w nm y m g) (he : Eff w [] L w') : InMs w' nm y m g := ⟨Eff.old' he h.b, h.t.eff0 he, h.m.eff he⟩

set_option maxRecDepth 100000 in
theorem every_any (nm : Nat) (y : Loc) (m : Meas) (g : Own) (w : World) (hb : w.heap[nm]? = some (blk (msC y m g m.sets.length) 98)) (hn : m.sets.length ≤ 12) :
    Calls Try.prog 69 [.pointer (some ⟨nm, 0, none⟩)].toArray w (Ret w (.int .u64 ((2 ^ m.sets.length - 1 : Nat) : Int))) := by
  have hp : 2 ^ m.sets.length ≤ 2 ^ 12 := Nat.pow_le_pow_right (by omega) hn
  have hp0 : 0 < 2 ^ m.sets.length := Nat.two_pow_pos _
  refine fEnterM (Eff.one hb) Try.func69 rfl Try.ntmps69 rfl ?_
  refine kSeq ?_
  refine kRegion rfl ?_
  refine lV (yAssign rfl) rfl rfl ?_
  refine lNil ?_
  refine kThen ?_
  refine kSeq ?_
  refine kRegion rfl ?_
  refine lV (yMove rfl) rfl rfl ?_
  refine lV (yNilCheckP rfl) rfl rfl ?_
  refine lV (yFieldAddr rfl F98_1) rfl rfl ?_
  refine lV (yLoad1 rfl O96 (cOwn 0 rfl rfl)) rfl rfl ?_
  refine lV (yLen rfl S96) rfl rfl ?_
  refine lV (yShl (a := 1) rfl rfl rfl (by omega) (by omega)) rfl rfl ?_
  refine lV (ySubN (b := 1) rfl rfl rfl (by omega)) rfl rfl ?_
  refine lV (yAssign rfl) rfl rfl ?_
  refine lNil ?_
  refine kThen ?_
  refine kRet ?_
  refine fRet rfl (.t rfl .n) (endRetM ((Eff.one hb)) ?_)
  simp only [packV, Nat.one_mul]
end Go.Proofs.Ytoefcofplkbnkaa
