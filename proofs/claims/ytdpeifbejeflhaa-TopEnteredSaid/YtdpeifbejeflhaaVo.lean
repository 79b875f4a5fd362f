/-
  Package twice: shelves; the plain ways; small walks.
-/
import Derived.Test.YtdpeifbejeflhaaVn
namespace Go.Proofs.Ytdpeifbejeflhaa
open ZW

structure NoteV where
  a : Int
  b : Int
  s : Bool
abbrev note0 : NoteV := ⟨0, 0, false⟩
abbrev rowNo (x : NoteV) : List Value := [i64 x.a, i64 x.b, .bool x.s]
structure Shl where
  n : Int
  zs : List Int
  p : Int × Int
  ns : List NoteV
abbrev shlC (ys yn : Option Addr × Nat) (s : Shl) : List Value := [i64 s.n, .slice ys.1 s.zs.length ys.2, i64 s.p.1, i64 s.p.2, .slice yn.1 s.ns.length yn.2]
structure InSh (w : World) (ys yn : Option Addr × Nat) (s : Shl) : Prop where
  z : SlE w ys.1 s.zs.length 1 (fun i => rowI (s.zs.getD i 0))
  n : SlE w yn.1 s.ns.length 3 (fun i => rowNo (s.ns.getD i note0))
theorem InSh.eff {w w' : World} {L : Heap} {ys yn : Option Addr × Nat} {s : Shl} (h : InSh w ys yn s) (hw : Eff w [] L w') : InSh w' ys yn s := ⟨h.z.eff0 hw, h.n.eff0 hw⟩
def noteOk (n : Int) (x : NoteV) : Prop := (0 ≤ x.a ∧ x.a ≤ n - 1) ∧ (0 ≤ x.b ∧ x.b ≤ n - 1) ∧ x.a ≠ x.b
instance (n : Int) (x : NoteV) : Decidable (noteOk n x) := inferInstanceAs (Decidable (_ ∧ _))
def sizeOk (x : Int) : Prop := 0 ≤ x ∧ x ≤ 9
instance (x : Int) : Decidable (sizeOk x) := inferInstanceAs (Decidable (_ ∧ _))
structure ShlOk (s : Shl) : Prop where
  n : 0 ≤ s.n ∧ s.n ≤ 8
  l : (s.zs.length : Int) = s.n
  p : 0 ≤ s.p.1 ∧ s.p.1 ≤ s.p.2 ∧ s.p.2 ≤ 8
  k : s.ns.length ≤ 12
  z : ∀ x ∈ s.zs, sizeOk x
  a : ∀ x ∈ s.ns, noteOk s.n x
instance (s : Shl) : Decidable (ShlOk s) := decidable_of_iff ((0 ≤ s.n ∧ s.n ≤ 8) ∧ (s.zs.length : Int) = s.n ∧ (0 ≤ s.p.1 ∧ s.p.1 ≤ s.p.2 ∧ s.p.2 ≤ 8) ∧ s.ns.length ≤ 12 ∧ (∀ x ∈ s.zs, sizeOk x) ∧ ∀ x ∈ s.ns, noteOk s.n x)
  ⟨fun ⟨a, b, c, d, e, g⟩ => ⟨a, b, c, d, e, g⟩, fun h => ⟨h.n, h.l, h.p, h.k, h.z, h.a⟩⟩

/-! ### Ways -/
abbrev Way := Nat → Int
abbrev w0 : Way := fun _ => 0
abbrev wC (w : Way) : List Value := [i64 (w 0), i64 (w 1), i64 (w 2), i64 (w 3), i64 (w 4), i64 (w 5), i64 (w 6), i64 (w 7)]
abbrev wV (w : Way) : Value := .agg (wC w).toArray
def wUp (w : Way) (i : Nat) (x : Int) : Way := fun j => if j = i then x else w j
theorem lt8 {i : Nat} (h : i < 8) : i = 0 ∨ i = 1 ∨ i = 2 ∨ i = 3 ∨ i = 4 ∨ i = 5 ∨ i = 6 ∨ i = 7 := by omega
theorem wSub (w : Way) {i : Nat} (h : i < 8) : sub (wC w) (0 + i * 1) 1 = some [i64 (w i)] := by
  rcases lt8 h with rfl | rfl | rfl | rfl | rfl | rfl | rfl | rfl <;> rfl
theorem wFits (w : Way) {i : Nat} (h : i < 8) : Nat.ble (0 + i * 1 + 1) (wC w).length = true := by
  rcases lt8 h with rfl | rfl | rfl | rfl | rfl | rfl | rfl | rfl <;> rfl
theorem wWr (w : Way) {i : Nat} (h : i < 8) (x : Int) : wr (wC w) (0 + i * 1) [i64 x] = wC (wUp w i x) := by
  rcases lt8 h with rfl | rfl | rfl | rfl | rfl | rfl | rfl | rfl <;> rfl
theorem wUp_self (w : Way) (i : Nat) : wUp w i (w i) = w := by
  funext j; unfold wUp; split <;> simp_all
theorem wUp_up (w : Way) (i : Nat) (x z : Int) : wUp (wUp w i x) i z = wUp w i z := by
  funext j; unfold wUp; split <;> simp_all
theorem wUp_ne (w : Way) {i j : Nat} (x : Int) (h : j ≠ i) : wUp w i x j = w j := if_neg h
theorem wUp_eq (w : Way) (i : Nat) (x : Int) : wUp w i x i = x := if_pos rfl
/-- How many plates there are. -/
def plsW (w : Way) : Nat → Nat
  | 0 => 0
  | n + 1 => plsW w n + if w n = (n : Nat) then 1 else 0
theorem plsW_le (w : Way) (n : Nat) : plsW w n ≤ n := by
  induction n with
  | zero => exact Nat.le_refl _
  | succ n ih => unfold plsW; split <;> omega
def oldZ (z : Way) (n i : Nat) : Int := if i = n then 0 else z i
def okW (s : Shl) (w z : Way) (n i : Nat) : Prop := ¬ (i < n ∧ w i ≠ (i : Nat)) ∧ ¬ (oldZ z n i ≠ 0 ∧ s.zs.getD n 0 ≠ 0 ∧ oldZ z n i ≠ s.zs.getD n 0)
instance (s : Shl) (w z : Way) (n i : Nat) : Decidable (okW s w z n i) := inferInstanceAs (Decidable (_ ∧ _))
theorem plsW_pos {w : Way} {n : Nat} (h : w n = (n : Nat)) : plsW w (n + 1) = plsW w n + 1 := by
  show plsW w n + (if w n = (n : Nat) then 1 else 0) = _
  rw [if_pos h]
theorem plsW_neg {w : Way} {n : Nat} (h : ¬ w n = (n : Nat)) : plsW w (n + 1) = plsW w n := by
  show plsW w n + (if w n = (n : Nat) then 1 else 0) = _
  rw [if_neg h, Nat.add_zero]
/-- All ways that go on so: r numbers are left. -/
def waysW (s : Shl) : Nat → Nat → Way → Way → List Way
  | 0, n, w, _ => if s.p.1 ≤ (plsW w n : Int) ∧ (plsW w n : Int) ≤ s.p.2 then [w] else []
  | r + 1, n, w, z => (List.range (n + 1)).flatMap fun i => if okW s w z n i then waysW s r (n + 1) (wUp w n (i : Nat)) (wUp z i (max (oldZ z n i) (s.zs.getD n 0))) else []
def brW (s : Shl) (r n : Nat) (w z : Way) (i : Nat) : List Way := if okW s w z n i then waysW s r (n + 1) (wUp w n (i : Nat)) (wUp z i (max (oldZ z n i) (s.zs.getD n 0))) else []
def ptW (s : Shl) (r n : Nat) (w z : Way) (i : Nat) : List Way := (List.range i).flatMap (brW s r n w z)
theorem ptW_succ (s : Shl) (r n : Nat) (w z : Way) (i : Nat) : ptW s r n w z (i + 1) = ptW s r n w z i ++ brW s r n w z i := by
  simp [ptW, List.range_succ]
theorem ptW_all (s : Shl) (r n : Nat) (w z : Way) : waysW s (r + 1) n w z = ptW s r n w z (n + 1) := rfl
theorem ptW_pre (s : Shl) (r n : Nat) (w z : Way) {i k : Nat} (h : i ≤ k) : ∃ B, ptW s r n w z k = ptW s r n w z i ++ B := by
  obtain ⟨d, rfl⟩ := Nat.exists_eq_add_of_le h
  clear h
  induction d with
  | zero => exact ⟨[], by simp⟩
  | succ d ih =>
    obtain ⟨B, hB⟩ := ih
    exact ⟨B ++ brW s r n w z (i + d), by rw [← Nat.add_assoc, ptW_succ, hB, List.append_assoc]⟩
abbrev allW (s : Shl) : List Way := waysW s s.n.toNat 0 w0 w0
def noteB (x : NoteV) (w : Way) : Bool := if x.s = true then decide (w x.a.toNat = w x.b.toNat) else !decide (w x.a.toNat = w x.b.toNat)
/-- The ways in which the notes are right. -/
abbrev rightB (s : Shl) (w : Way) : Bool := s.ns.all fun x => noteB x w
abbrev rightW (s : Shl) : List Way := (allW s).filter (rightB s)

/-! ### Small walks -/
set_option maxRecDepth 100000 in
theorem tbad_any (n : Int) (w : World) : Calls Try.prog 32 [i64 n].toArray w (Ret w (.bool (!decide (sizeOk n)))) := by
  refine fEnter Try.func32 rfl Try.ntmps32 rfl ?_
  refine kSeq ?_
  refine kRegion rfl ?_
  refine lV (yAssign rfl) rfl rfl ?_
  refine lNil ?_
  refine kThen ?_
  refine kSeq ?_
  refine kRegion rfl ?_
  refine lV (yMove rfl) rfl rfl ?_
  refine lV (yCall rfl (.c rfl (.c rfl (.c rfl .n))) C33 (fun w hw => twithin_any _ _ _ w)) rfl rfl ?_
  refine lV (yNot rfl) rfl rfl ?_
  refine lV (yAssign rfl) rfl rfl ?_
  refine lNil ?_
  refine kThen ?_
  refine kRet ?_
  refine fRet rfl (.t rfl .n) (endRet ?_)
  rfl
abbrev shBox (ys yn : Option Addr × Nat) (s : Shl) (a b c : Value) : Obj := blk (shlC ys yn s ++ [a, b, c]) 67
set_option maxRecDepth 100000 in
theorem isNumber_any (ys yn : Option Addr × Nat) (s : Shl) (a b c : Value) (nS : Nat) (n : Int) (w : World) (h : w.heap[nS]? = some (shBox ys yn s a b c)) (hn : 0 ≤ s.n ∧ s.n ≤ 8) :
    Calls Try.prog 36 [.pointer (some ⟨nS, 0, none⟩), i64 n].toArray w (Ret w (.bool (decide (0 ≤ n ∧ n ≤ s.n - 1)))) := by
  refine fEnter Try.func36 rfl Try.ntmps36 rfl ?_
  refine kSeq ?_
  refine kRegion rfl ?_
  refine lV (yAssign rfl) rfl rfl ?_
  refine lNil ?_
  refine kThen ?_
  refine kSeq ?_
  refine kRegion rfl ?_
  refine lV (yMove rfl) rfl rfl ?_
  refine lV (yMove rfl) rfl rfl ?_
  refine lV (yNilCheckP rfl) rfl rfl ?_
  refine lV (yFieldAddr rfl F67_0) rfl rfl ?_
  refine lV (yFieldAddr rfl F27_0) rfl rfl ?_
  refine lV (yLoad1 rfl O3 (cOldB (h) rfl)) rfl rfl ?_
  refine lV (ySub rfl rfl (by omega)) rfl rfl ?_
  refine lV (yCall rfl (.c rfl (.c rfl (.c rfl .n))) C33 (fun w hw => twithin_any _ _ _ w)) rfl rfl ?_
  refine lV (yAssign rfl) rfl rfl ?_
  refine lNil ?_
  refine kThen ?_
  refine kRet ?_
  refine fRet rfl (.t rfl .n) (endRet ?_)
  rfl
set_option maxRecDepth 100000 in
theorem plates_any (x : Way) (n : Nat) (hn : n ≤ 8) (w : World) : Calls Try.prog 59 [wV x, i64 (n : Nat)].toArray w (Ret w (i64 (plsW x n : Nat))) := by
  refine fEnter Try.func59 rfl Try.ntmps59 rfl ?_
  refine kSeq ?_
  refine kRegion rfl ?_
  refine lE rfl ?_
  refine eBoxA rfl fun n2 => ?_
  refine lV (yAssign rfl) rfl rfl ?_
  refine lNil ?_
  refine kThen ?_
  refine kSeq ?_
  refine kSeq ?_
  refine kRegion rfl ?_
  refine lV (yMove rfl) rfl rfl ?_
  refine lV (yMove rfl) rfl rfl ?_
  refine lNil ?_
  refine kThen ?_
  refine kBlock ?_
  refine kLoopX (ι := Nat) (fun i => i ≤ n) (fun i => [(7, i64 (i : Nat)), (4, i64 (plsW x i : Nat))]) [(0, _), (1, _), (2, _), (6, _)] (fun i => []) (fun i => []) [(n2, _)] (fun i => n - i) 0 (Nat.zero_le _) rfl (.c rfl (.c rfl .n)) (.c rfl (.c rfl (.c rfl (.c rfl .n)))) (.c 0 rfl .n) ?_
  rintro i hi
  have hp := plsW_le x i
  refine kSeq ?_
  refine kRegion rfl ?_
  refine lV (yLss rfl rfl) rfl rfl ?_
  refine lNil ?_
  refine kThen ?_
  refine kSeq ?_
  refine split (t := 8) rfl (fun h8 => ?_) (fun h8 => ?_)
  · refine kIfT rfl ?_
    refine kSkip ?_
    refine kThen ?_
    refine kSeq ?_
    refine kBlock ?_
    refine kSeq ?_
    refine kRegion rfl ?_
    refine lV (yMove rfl) rfl rfl ?_
    refine lV (yAssign rfl) rfl rfl ?_
    refine lNil ?_
    refine kThen ?_
    refine kSeq ?_
    refine kRegion rfl ?_
    refine lV (yMove rfl) rfl rfl ?_
    refine lV (yIndexN rfl rfl R61 ((by omega))) rfl rfl ?_
    refine lV (yLoad1 rfl O3 (cOwn 0 rfl (wSub x (by omega)))) rfl rfl ?_
    refine lV (yMove rfl) rfl rfl ?_
    refine lV (yEql rfl rfl) rfl rfl ?_
    refine split (t := 14) rfl (fun h14 => ?_) (fun h14 => ?_)
    · refine lNil ?_
      refine kThen ?_
      refine kIfT rfl ?_
      refine kRegion rfl ?_
      refine lV (yMove rfl) rfl rfl ?_
      refine lV (yAdd rfl rfl (by omega)) rfl rfl ?_
      refine lV (yAssign rfl) rfl rfl ?_
      refine lNil ?_
      refine kInN ?_
      refine kThen ?_
      refine kRegion rfl ?_
      refine lV (yAdd rfl rfl (by omega)) rfl rfl ?_
      refine lV (yMove rfl) rfl rfl ?_
      refine lNil ?_
      exact kRoundX (i + 1) ((by omega)) (by omega) rfl (.c rfl (.c (by rw [plsW_pos h14]; rfl) .n)) (.c rfl (.c rfl (.c rfl (.c rfl .n)))) (.c 0 rfl .n)
    · refine lNil ?_
      refine kThen ?_
      refine kIfF rfl ?_
      refine kSkip ?_
      refine kInN ?_
      refine kThen ?_
      refine kRegion rfl ?_
      refine lV (yAdd rfl rfl (by omega)) rfl rfl ?_
      refine lV (yMove rfl) rfl rfl ?_
      refine lNil ?_
      exact kRoundX (i + 1) ((by omega)) (by omega) rfl (.c rfl (.c (by rw [plsW_neg h14]; rfl) .n)) (.c rfl (.c rfl (.c rfl (.c rfl .n)))) (.c 0 rfl .n)
  · refine kIfF rfl ?_
    refine kExit ?_
    refine kThenX ?_
    refine kThenX ?_
    refine kInX ?_
    refine kThen ?_
    refine kSeq ?_
    refine kRegion rfl ?_
    refine lV (yMove rfl) rfl rfl ?_
    refine lV (yAssign rfl) rfl rfl ?_
    refine lNil ?_
    refine kThen ?_
    refine kRet ?_
    refine fRet rfl (.t rfl .n) (endRet ?_)
    obtain rfl : i = n := by omega
    rfl
set_option maxRecDepth 100000 in
theorem same_any (x : NoteV) (y : Way) (n : Int) (h : noteOk n x) (hn : n ≤ 8) (w : World) : Calls Try.prog 109 [.agg [i64 x.a, i64 x.b].toArray, wV y].toArray w (Ret w (.bool (decide (y x.a.toNat = y x.b.toNat)))) := by
  unfold noteOk at h
  refine fEnter Try.func109 rfl Try.ntmps109 rfl ?_
  refine kSeq ?_
  refine kRegion rfl ?_
  refine lE rfl ?_
  refine eBoxA rfl fun n2 => ?_
  refine lE rfl ?_
  refine eBoxA rfl fun n3 => ?_
  refine lV (yAssign rfl) rfl rfl ?_
  refine lNil ?_
  refine kThen ?_
  refine kSeq ?_
  refine kDrawE [(1, none), (3, none), (5, none), (7, none)] [] [0, 1, 2, 3, 4, 5, 6, 7, 8, 9] 0 hMix (by kernel_rfl) ?_
  refine .run rfl (yFieldAddr rfl F92_0) rfl rfl ?_
  refine .run rfl (yLoad1 rfl O3 (cOwn 1 rfl rfl)) rfl rfl ?_
  refine .run rfl (yIndexAr rfl rfl R61 (by omega) (by omega)) rfl rfl ?_
  refine .run rfl (yLoad1 rfl O3 (cOwn 0 rfl (wSub y (by omega)))) rfl rfl ?_
  refine .run rfl (yFieldAddr rfl F92_1) rfl rfl ?_
  refine .run rfl (yLoad1 rfl O3 (cOwn 1 rfl rfl)) rfl rfl ?_
  refine .run rfl (yIndexAr rfl rfl R61 (by omega) (by omega)) rfl rfl ?_
  refine .run rfl (yLoad1 rfl O3 (cOwn 0 rfl (wSub y (by omega)))) rfl rfl ?_
  refine .run rfl (yEql rfl rfl) rfl rfl ?_
  refine .run rfl (yAssign rfl) rfl rfl ?_
  refine .done ?_
  refine effDone closedSt (hLeft [1, 3, 5, 7] (by kernel_rfl) (.c (fun _ _ hs => hs.ef) (.c (fun _ _ hs => hs.ef) (.c (fun _ _ hs => hs.ef) (.c (fun _ _ hs => hs.ef) .n))))) (by kernel_rfl) ?_
  refine kThen ?_
  refine kRet ?_
  refine fRet rfl (.t rfl .n) (endRet ?_)
  rfl
set_option maxRecDepth 100000 in
theorem not_any (x : NoteV) (y : Way) (n : Int) (h : noteOk n x) (hn : n ≤ 8) (w : World) : Calls Try.prog 110 [.agg [i64 x.a, i64 x.b].toArray, wV y].toArray w (Ret w (.bool (!decide (y x.a.toNat = y x.b.toNat)))) := by
  unfold noteOk at h
  refine fEnter Try.func110 rfl Try.ntmps110 rfl ?_
  refine kSeq ?_
  refine kRegion rfl ?_
  refine lE rfl ?_
  refine eBoxA rfl fun n2 => ?_
  refine lE rfl ?_
  refine eBoxA rfl fun n3 => ?_
  refine lV (yAssign rfl) rfl rfl ?_
  refine lNil ?_
  refine kThen ?_
  refine kSeq ?_
  refine kDrawE [(1, none), (3, none), (5, none), (7, none)] [] [0, 1, 2, 3, 4, 5, 6, 7, 8, 9] 0 hMix (by kernel_rfl) ?_
  refine .run rfl (yFieldAddr rfl F93_0) rfl rfl ?_
  refine .run rfl (yLoad1 rfl O3 (cOwn 1 rfl rfl)) rfl rfl ?_
  refine .run rfl (yIndexAr rfl rfl R61 (by omega) (by omega)) rfl rfl ?_
  refine .run rfl (yLoad1 rfl O3 (cOwn 0 rfl (wSub y (by omega)))) rfl rfl ?_
  refine .run rfl (yFieldAddr rfl F93_1) rfl rfl ?_
  refine .run rfl (yLoad1 rfl O3 (cOwn 1 rfl rfl)) rfl rfl ?_
  refine .run rfl (yIndexAr rfl rfl R61 (by omega) (by omega)) rfl rfl ?_
  refine .run rfl (yLoad1 rfl O3 (cOwn 0 rfl (wSub y (by omega)))) rfl rfl ?_
  refine .run rfl (yNeq rfl rfl) rfl rfl ?_
  refine .run rfl (yAssign rfl) rfl rfl ?_
  refine .done ?_
  refine effDone closedSt (hLeft [1, 3, 5, 7] (by kernel_rfl) (.c (fun _ _ hs => hs.ef) (.c (fun _ _ hs => hs.ef) (.c (fun _ _ hs => hs.ef) (.c (fun _ _ hs => hs.ef) .n))))) (by kernel_rfl) ?_
  refine kThen ?_
  refine kRet ?_
  refine fRet rfl (.t rfl .n) (endRet ?_)
  simp [packV]
/-- A note as it is kept. -/
def noT (x : NoteV) : TypeId := if x.s = true then 92 else 93
abbrev noteI (x : NoteV) : Value := .iface (noT x) (.agg [i64 x.a, i64 x.b].toArray)
abbrev rowN (x : NoteV) : List Value := [noteI x]
def noF (x : NoteV) : FuncId := if x.s = true then 109 else 110
theorem noF_m (x : NoteV) : methT Try.prog (noT x) "zoneworks/twice.right" = some (noF x) := by
  unfold noT noF
  split <;> kernel_rfl
theorem noF_c (x : NoteV) : callT Try.prog (noF x) = true := by
  unfold noF
  split <;> kernel_rfl
theorem noF_any (x : NoteV) (y : Way) (n : Int) (h : noteOk n x) (hn : n ≤ 8) (w : World) : Calls Try.prog (noF x) [.agg [i64 x.a, i64 x.b].toArray, wV y].toArray w (Ret w (.bool (noteB x y))) := by
  unfold noF noteB
  by_cases hs : x.s = true
  · rw [if_pos hs, if_pos hs]; exact same_any x y n h hn w
  · rw [if_neg hs, if_neg hs]; exact not_any x y n h hn w
end Go.Proofs.Ytdpeifbejeflhaa
