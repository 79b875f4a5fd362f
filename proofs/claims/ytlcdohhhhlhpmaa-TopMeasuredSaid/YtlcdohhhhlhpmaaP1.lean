/-
  Texts Aa, Ab, Ac, Ad, Ae in one.
-/
import Derived.Test.YtlcdohhhhlhpmaaP0
import Derived.Test.YtlcdohhhhlhpmaaE3
namespace Go.Proofs.Ytlcdohhhhlhpmaa
open ZW

abbrev i64 (n : Int) : Value := .int .i64 n
theorem getD_mem {α : Type} {l : List α} {i : Nat} (h : i < l.length) (d : α) : l.getD i d ∈ l := by
  rw [← List.getElem_eq_getD (h := h)]; exact List.getElem_mem h
theorem range_foldl_succ {α : Type} (f : α → Nat → α) (x : α) (n : Nat) : (List.range (n + 1)).foldl f x = f ((List.range n).foldl f x) n := by
  rw [List.range_succ, List.foldl_append]; rfl
theorem notT {p : Prop} [Decidable p] (h : (!decide p) = true) : ¬ p := by simpa using h
theorem notF {p : Prop} [Decidable p] (h : (!decide p) = false) : p := by simpa using h
/-- A star. -/
structure StarV where
  x : Int × Int
  y : Int × Int
  k : Bool
  e : Int × Int
  n : Int × Int
abbrev star0 : StarV := ⟨(0, 0), (0, 0), false, (0, 0), (0, 0)⟩
abbrev rowE (x : Int × Int) : List Value := [i64 x.1, i64 x.2]
abbrev rowS (s : StarV) : List Value := [i64 s.x.1, i64 s.x.2, i64 s.y.1, i64 s.y.2, .bool s.k, i64 s.e.1, i64 s.e.2, i64 s.n.1, i64 s.n.2]
abbrev starC (l : List StarV) (i : Nat) : List Value := rowS (l.getD i star0)
/-- A plate, and where its stars lie. -/
structure Plt where
  sc : Int × Int
  st : List StarV
abbrev pltC (y : Option Addr × Nat) (p : Plt) : List Value := [i64 p.sc.1, i64 p.sc.2, .slice y.1 p.st.length y.2]
abbrev InP (w : World) (y : Option Addr × Nat) (p : Plt) : Prop := SlE w y.1 p.st.length 9 (starC p.st)

def spanOk (lo hi : Int) (s : Int × Int) : Prop := lo ≤ s.1 ∧ s.1 ≤ s.2 ∧ s.2 ≤ hi
instance (lo hi : Int) (s : Int × Int) : Decidable (spanOk lo hi s) := inferInstanceAs (Decidable (_ ∧ _))
def starOk (s : StarV) : Prop := spanOk 0 32768 s.x ∧ spanOk 0 32768 s.y ∧ (s.k = true → spanOk (-1048576) 1048576 s.e ∧ spanOk (-1048576) 1048576 s.n)
instance (s : StarV) : Decidable (starOk s) := inferInstanceAs (Decidable (_ ∧ _ ∧ (_ → _)))
structure PltOk (p : Plt) : Prop where
  c : spanOk 1 1000 p.sc
  n : p.st.length ≤ 10
  s : ∀ x ∈ p.st, starOk x
instance (p : Plt) : Decidable (PltOk p) := decidable_of_iff (spanOk 1 1000 p.sc ∧ p.st.length ≤ 10 ∧ ∀ x ∈ p.st, starOk x) ⟨fun h => ⟨h.1, h.2.1, h.2.2⟩, fun h => ⟨h.c, h.n, h.s⟩⟩

set_option maxRecDepth 100000 in
theorem nan_any (n : Int) (w : World) : Calls Try.prog 153 [i64 n].toArray w (Ret w (.bool false)) := by
  refine fEnter Try.func153 rfl Try.ntmps153 rfl ?_
  refine kSeq ?_
  refine kRegion rfl ?_
  refine lV (yAssign rfl) rfl rfl ?_
  refine lNil ?_
  refine kThen ?_
  refine kSeq ?_
  refine kRegion rfl ?_
  refine lV (yMove rfl) rfl rfl ?_
  refine lV (yMove rfl) rfl rfl ?_
  refine lV (yNeq rfl rfl) rfl rfl ?_
  refine lV (yAssign rfl) rfl rfl ?_
  refine lNil ?_
  refine kThen ?_
  refine kRet ?_
  refine fRet rfl (.t rfl .n) (endRet ?_)
  simp [packV]
set_option maxRecDepth 100000 in
theorem less_any (a b : Int) (w : World) : Calls Try.prog 148 [i64 a, i64 b].toArray w (Ret w (.bool (decide (a < b)))) := by
  refine fEnter Try.func148 rfl Try.ntmps148 rfl ?_
  refine kSeq ?_
  refine kRegion rfl ?_
  refine lV (yAssign rfl) rfl rfl ?_
  refine lNil ?_
  refine kThen ?_
  refine kSeq ?_
  refine kRegion rfl ?_
  refine lV (yMove rfl) rfl rfl ?_
  refine lV (yCall rfl (.c rfl .n) C153 (fun w hw => nan_any _ w)) rfl rfl ?_
  refine lV (yMove rfl) rfl rfl ?_
  refine lGN rfl rfl rfl rfl rfl ?_
  refine lGN rfl rfl rfl rfl rfl ?_
  refine lGN rfl rfl rfl rfl rfl ?_
  refine lV (yPickF rfl rfl) rfl rfl ?_
  refine lV (yMove rfl) rfl rfl ?_
  refine lGY rfl rfl rfl (oV (yMove rfl) rfl ?_)
  refine lGY rfl rfl rfl (oV (yMove rfl) rfl ?_)
  refine lGY rfl rfl rfl (oV (yLss rfl rfl) rfl ?_)
  refine lV (yPickF rfl rfl) rfl rfl ?_
  refine lV (yAssign rfl) rfl rfl ?_
  refine lNil ?_
  refine kThen ?_
  refine kRet ?_
  refine fRet rfl (.t rfl .n) (endRet ?_)
  rfl
def sortedL (l : List Int) : Prop := ∀ i, i < l.length → 0 < i → l.getD (i - 1) 0 ≤ l.getD i 0
abbrev rowI (n : Int) : List Value := [i64 n]

set_option maxRecDepth 100000 in
theorem sorted_any (a : Option Addr) (c : Nat) (l : List Int) (v : Bool) (w : World) (hs : SlE w a l.length 1 (fun i => rowI (l.getD i 0))) (hl : 1 ≤ l.length ∧ l.length ≤ 1000) (hv : v = true ↔ sortedL l) :
    Calls Try.prog 139 [.slice a l.length c].toArray w (Ret w (.bool v)) := by
  refine fEnter Try.func139 rfl Try.ntmps139 rfl ?_
  refine kSeq ?_
  refine kRegion rfl ?_
  refine lV (yAssign rfl) rfl rfl ?_
  refine lNil ?_
  refine kThen ?_
  refine kSeq ?_
  refine kSeq ?_
  refine kRegion rfl ?_
  refine lV (yMove rfl) rfl rfl ?_
  refine lV (yLen rfl S56) rfl rfl ?_
  refine lV (ySub rfl rfl (by omega)) rfl rfl ?_
  refine lV (yAssign rfl) rfl rfl ?_
  refine lNil ?_
  refine kThen ?_
  refine kBlock ?_
  refine kLoopX (ι := Nat) (fun k => k < l.length ∧ ∀ i, k < i → i < l.length → l.getD (i - 1) 0 ≤ l.getD i 0) (fun k => [(3, i64 (k : Nat))]) [(0, _), (4, _), (5, _), (6, _)] (fun k => []) (fun k => []) [] (fun k => k) (l.length - 1) (⟨by omega, fun i h h' => absurd h (by omega)⟩) rfl (.c (by show some (i64 _) = _; congr 2; omega) .n) (.c rfl (.c rfl (.c rfl (.c rfl .n)))) .n ?_
  rintro k ⟨hk, hok⟩
  refine kSeq ?_
  refine kSeq ?_
  refine kRegion rfl ?_
  refine lV (yMove rfl) rfl rfl ?_
  refine lV (yGtr rfl rfl) rfl rfl ?_
  refine lNil ?_
  refine kThen ?_
  refine split (t := 8) rfl (fun h8 => ?_) (fun h8 => ?_)
  · refine kIfT rfl ?_
    refine kSkip ?_
    refine kThen ?_
    refine kSeq ?_
    refine kBlock ?_
    refine kSeq ?_
    refine kDrawE [(2, none), (3, none), (7, none), (8, none), (9, none)] [] [0, 1, 2, 3, 4, 5, 6, 7, 8, 9] 0 hMix (by kernel_rfl) ?_
    refine .run rfl (yMove rfl) rfl rfl ?_
    refine .run rfl (yMove rfl) rfl rfl ?_
    refine .run rfl (yIndexS  rfl rfl S56 (hs.r) ((by omega))) rfl rfl ?_
    refine .run rfl (yLoad1 rfl O3 (cSl0 (hs.r) ((by omega)) rfl)) rfl rfl ?_
    refine .run rfl (yMove rfl) rfl rfl ?_
    refine .run rfl (yMove rfl) rfl rfl ?_
    refine .run rfl (yvSame (u := i64 ((k - 1 : Nat) : Int)) (ySub rfl rfl (by omega)) (by congr 2; omega)) rfl rfl ?_
    refine .run rfl (yIndexS  rfl rfl S56 (hs.r) ((by omega))) rfl rfl ?_
    refine .run rfl (yLoad1 rfl O3 (cSl0 (hs.r) ((by omega)) rfl)) rfl rfl ?_
    refine .run rfl (yCall rfl (.c rfl (.c rfl .n)) C148 (fun w hw => less_any _ _ w)) rfl rfl ?_
    refine .done ?_
    refine effDone closedSt (hLeft [2, 3, 7, 8, 9] (by kernel_rfl) (.c (fun _ _ hs => hs.ef) (.c (fun _ _ hs => hs.ef) (.c (fun _ _ hs => hs.ef) (.c (fun _ _ hs => hs.ef) (.c (fun _ _ hs => hs.ef) .n)))))) (by kernel_rfl) ?_
    refine kThen ?_
    refine split (t := 20) rfl (fun h20 => ?_) (fun h20 => ?_)
    · refine kIfT rfl ?_
      refine kSeq ?_
      refine kRegion rfl ?_
      refine lV (yAssign rfl) rfl rfl ?_
      refine lNil ?_
      refine kThen ?_
      refine kRet ?_
      refine kInR ?_
      refine kThenR ?_
      refine kThenR ?_
      refine kInR ?_
      refine kThenR ?_
      refine fRet rfl (.t rfl .n) (endRet ?_)
      have hvf : v = false := by
        cases v with
        | false => rfl
        | true => have := hv.1 rfl k hk (by omega); omega
      rw [hvf]; rfl
    · refine kIfF rfl ?_
      refine kSkip ?_
      refine kInN ?_
      refine kThen ?_
      refine kRegion rfl ?_
      refine lV (yMove rfl) rfl rfl ?_
      refine lV (ySub rfl rfl (by omega)) rfl rfl ?_
      refine lV (yAssign rfl) rfl rfl ?_
      refine lNil ?_
      exact kRoundX (k - 1) (⟨by omega, fun i h h' => by rcases Nat.lt_or_ge k i with h1 | h1; (· exact hok i h1 h'); (obtain rfl : i = k := by omega); omega⟩) (by omega) rfl (.c (by show some (i64 _) = _; congr 2; omega) .n) (.c rfl (.c rfl (.c rfl (.c rfl .n)))) .n
  · refine kIfF rfl ?_
    refine kExit ?_
    refine kThenX ?_
    refine kThenX ?_
    refine kInX ?_
    refine kThen ?_
    refine kSeq ?_
    refine kRegion rfl ?_
    refine lV (yAssign rfl) rfl rfl ?_
    refine lNil ?_
    refine kThen ?_
    refine kRet ?_
    refine fRet rfl (.t rfl .n) (endRet ?_)
    have hvt : v = true := hv.2 fun i hi h0 => hok i (by omega) hi
    rw [hvt]; rfl
theorem sorted4 {b c d e : Int} : (b ≤ c ∧ c ≤ d ∧ d ≤ e) ↔ sortedL [b, c, d, e] := by
  constructor
  · intro h i hi h0
    match i, hi, h0 with
    | 1, _, _ => exact h.1
    | 2, _, _ => exact h.2.1
    | 3, _, _ => exact h.2.2
  · intro h
    exact ⟨h 1 (by simp) (by omega), h 2 (by simp) (by omega), h 3 (by simp) (by omega)⟩
set_option maxRecDepth 100000 in
theorem ordered_any (n : Nat) {T : TypeId} {z : Nat × Nat} (b c d e : Int) (w : World) (hb : w.heap[n]? = some (.cells [i64 b, i64 c, i64 d, i64 e].toArray T z)) : Calls Try.prog 126 [.slice (some ⟨n, 0, none⟩) 4 4].toArray w (Ret w (.bool (decide (b ≤ c ∧ c ≤ d ∧ d ≤ e)))) := by
  refine fEnter Try.func126 rfl Try.ntmps126 rfl ?_
  refine kSeq ?_
  refine kRegion rfl ?_
  refine lV (yAssign rfl) rfl rfl ?_
  refine lNil ?_
  refine kThen ?_
  refine kSeq ?_
  refine kRegion rfl ?_
  refine lV (yMove rfl) rfl rfl ?_
  refine lV (yCall rfl (.c rfl .n) C139 (fun w hw => sorted_any _ 4 [b, c, d, e] (decide (b ≤ c ∧ c ≤ d ∧ d ≤ e)) w (sleRows (f := rowI) (fun _ => rfl) 0 [b, c, d, e] rfl (hw.old' hb)) (by simp) (by rw [decide_eq_true_eq, sorted4]))) rfl rfl ?_
  refine lV (yAssign rfl) rfl rfl ?_
  refine lNil ?_
  refine kThen ?_
  refine kRet ?_
  refine fRet rfl (.t rfl .n) (endRet ?_)
  rfl
set_option maxRecDepth 100000 in
theorem image_any (x : Int × Int) (w : World) : Calls Try.prog 125 [.agg (rowE x).toArray].toArray w (Ret w (.bool (decide (spanOk 0 32768 x)))) := by
  refine fEnter Try.func125 rfl Try.ntmps125 rfl ?_
  refine kSeq ?_
  refine kRegion rfl ?_
  refine lE rfl ?_
  refine eBoxA rfl fun n1 => ?_
  refine lV (yAssign rfl) rfl rfl ?_
  refine lNil ?_
  refine kThen ?_
  refine kSeq ?_
  refine kRegion rfl ?_
  refine lV (yFieldAddr rfl F23_0) rfl rfl ?_
  refine lV (yLoad1 rfl O3 (cOwn 0 rfl rfl)) rfl rfl ?_
  refine lV (yFieldAddr rfl F23_1) rfl rfl ?_
  refine lV (yLoad1 rfl O3 (cOwn 0 rfl rfl)) rfl rfl ?_
  refine lE rfl ?_
  refine eBuildSlice (.c rfl (.c rfl (.c rfl (.c rfl .n)))) (fun w => BS56_4_0_1_2_3 w) fun n7 => ?_
  refine lV (yCall rfl (.c rfl .n) C126 (fun w hw => ordered_any _ _ _ _ _ w (hw.blkAt 0 rfl))) rfl rfl ?_
  refine lV (yAssign rfl) rfl rfl ?_
  refine lNil ?_
  refine kThen ?_
  refine kRet ?_
  refine fRet rfl (.t rfl .n) (endRet ?_)
  rfl
set_option maxRecDepth 100000 in
theorem sky_any (x : Int × Int) (w : World) : Calls Try.prog 127 [.agg (rowE x).toArray].toArray w (Ret w (.bool (decide (spanOk (-1048576) 1048576 x)))) := by
  refine fEnter Try.func127 rfl Try.ntmps127 rfl ?_
  refine kSeq ?_
  refine kRegion rfl ?_
  refine lE rfl ?_
  refine eBoxA rfl fun n1 => ?_
  refine lV (yAssign rfl) rfl rfl ?_
  refine lNil ?_
  refine kThen ?_
  refine kSeq ?_
  refine kRegion rfl ?_
  refine lV (yFieldAddr rfl F23_0) rfl rfl ?_
  refine lV (yLoad1 rfl O3 (cOwn 0 rfl rfl)) rfl rfl ?_
  refine lV (yFieldAddr rfl F23_1) rfl rfl ?_
  refine lV (yLoad1 rfl O3 (cOwn 0 rfl rfl)) rfl rfl ?_
  refine lE rfl ?_
  refine eBuildSlice (.c rfl (.c rfl (.c rfl (.c rfl .n)))) (fun w => BS56_4_0_1_2_3 w) fun n7 => ?_
  refine lV (yCall rfl (.c rfl .n) C126 (fun w hw => ordered_any _ _ _ _ _ w (hw.blkAt 0 rfl))) rfl rfl ?_
  refine lV (yAssign rfl) rfl rfl ?_
  refine lNil ?_
  refine kThen ?_
  refine kRet ?_
  refine fRet rfl (.t rfl .n) (endRet ?_)
  rfl
theorem bad_val (s : StarV) : (!decide (starOk s)) = (!decide (spanOk 0 32768 s.x) || (!decide (spanOk 0 32768 s.y) || (s.k && (!decide (spanOk (-1048576) 1048576 s.e) || !decide (spanOk (-1048576) 1048576 s.n))))) := by
  unfold starOk
  by_cases h1 : spanOk 0 32768 s.x <;> by_cases h2 : spanOk 0 32768 s.y <;> by_cases h3 : s.k = true <;> by_cases h4 : spanOk (-1048576) 1048576 s.e <;> by_cases h5 : spanOk (-1048576) 1048576 s.n <;> simp [*]
set_option maxRecDepth 100000 in
theorem bad_any (n1 n2 : Nat) (s : StarV) (w : World) (h1 : w.heap[n1]? = some (blk [.func (.func 125) [].toArray [].toArray] 162)) (h2 : w.heap[n2]? = some (blk [.func (.func 127) [].toArray [].toArray] 162)) :
    Calls Try.prog 128 [.agg (rowS s).toArray, .pointer (some ⟨n1, 0, none⟩), .pointer (some ⟨n2, 0, none⟩)].toArray w (Ret w (.bool (!decide (starOk s)))) := by
  have hv := bad_val s
  refine fEnter Try.func128 rfl Try.ntmps128 rfl ?_
  refine kSeq ?_
  refine kRegion rfl ?_
  refine lE rfl ?_
  refine eBoxA rfl fun n3 => ?_
  refine lV (yAssign rfl) rfl rfl ?_
  refine lNil ?_
  refine kThen ?_
  refine kSeq ?_
  refine kRegion rfl ?_
  refine lV (yLoad1 rfl O162 (cOldB (h1) rfl)) rfl rfl ?_
  refine lV (yFieldAddr rfl F58_0) rfl rfl ?_
  refine lV (yLoadA (vs := [_, _]) rfl A23 (cOwn 0 rfl rfl)) rfl rfl ?_
  refine lV (yCall rfl (.c rfl .n) C125 (fun w hw => image_any _ w)) rfl rfl ?_
  refine lV (yNot rfl) rfl rfl ?_
  refine lV (yMove rfl) rfl rfl ?_
  refine splitB (t := 10) rfl (fun h10 => ?_) (fun h10 => ?_)
  · refine lGN rfl rfl rfl rfl rfl ?_
    refine lGN rfl rfl rfl rfl rfl ?_
    refine lGN rfl rfl rfl rfl rfl ?_
    refine lGN rfl rfl rfl rfl rfl ?_
    refine lGN rfl rfl rfl rfl rfl ?_
    refine lV (yPickT rfl rfl) rfl rfl ?_
    refine lV (yMove rfl) rfl rfl ?_
    refine lGN rfl rfl rfl rfl rfl ?_
    refine lGN rfl rfl rfl rfl rfl ?_
    refine lGN rfl rfl rfl rfl rfl ?_
    refine lGU rfl rfl rfl rfl ?_
    refine lGU rfl rfl rfl rfl ?_
    refine lGU rfl rfl rfl rfl ?_
    refine lGU rfl rfl rfl rfl ?_
    refine lGU rfl rfl rfl rfl ?_
    refine lGU rfl rfl rfl rfl ?_
    refine lGU rfl rfl rfl rfl ?_
    refine lGU rfl rfl rfl rfl ?_
    refine lGU rfl rfl rfl rfl ?_
    refine lGU rfl rfl rfl rfl ?_
    refine lGU rfl rfl rfl rfl ?_
    refine lGU rfl rfl rfl rfl ?_
    refine lGN rfl rfl rfl rfl rfl ?_
    refine lV (yPickT rfl rfl) rfl rfl ?_
    refine lV (yAssign rfl) rfl rfl ?_
    refine lNil ?_
    refine kThen ?_
    refine kRet ?_
    refine fRet rfl (.t rfl .n) (endRet ?_)
    simp only [packV]; rw [hv]; simp [*]
  · refine lGY rfl rfl rfl (oV (yLoad1 rfl O162 (cOldB (h1) rfl)) rfl ?_)
    refine lGY rfl rfl rfl (oV (yFieldAddr rfl F58_1) rfl ?_)
    refine lGY rfl rfl rfl (oV (yLoadA (vs := [_, _]) rfl A23 (cOwn 0 rfl rfl)) rfl ?_)
    refine lGY rfl rfl rfl (oV (yCall rfl (.c rfl .n) C125 (fun w hw => image_any _ w)) rfl ?_)
    refine lGY rfl rfl rfl (oV (yNot rfl) rfl ?_)
    refine lV (yPickF rfl rfl) rfl rfl ?_
    refine lV (yMove rfl) rfl rfl ?_
    refine splitB (t := 17) rfl (fun h17 => ?_) (fun h17 => ?_)
    · refine lGN rfl rfl rfl rfl rfl ?_
      refine lGN rfl rfl rfl rfl rfl ?_
      refine lGN rfl rfl rfl rfl rfl ?_
      refine lGU rfl rfl rfl rfl ?_
      refine lGU rfl rfl rfl rfl ?_
      refine lGU rfl rfl rfl rfl ?_
      refine lGU rfl rfl rfl rfl ?_
      refine lGU rfl rfl rfl rfl ?_
      refine lGU rfl rfl rfl rfl ?_
      refine lGU rfl rfl rfl rfl ?_
      refine lGU rfl rfl rfl rfl ?_
      refine lGU rfl rfl rfl rfl ?_
      refine lGU rfl rfl rfl rfl ?_
      refine lGU rfl rfl rfl rfl ?_
      refine lGU rfl rfl rfl rfl ?_
      refine lGN rfl rfl rfl rfl rfl ?_
      refine lV (yPickT rfl rfl) rfl rfl ?_
      refine lV (yAssign rfl) rfl rfl ?_
      refine lNil ?_
      refine kThen ?_
      refine kRet ?_
      refine fRet rfl (.t rfl .n) (endRet ?_)
      simp only [packV]; rw [hv]; simp [*]
    · refine lGY rfl rfl rfl (oV (yFieldAddr rfl F58_2) rfl ?_)
      refine lGY rfl rfl rfl (oV (yLoad1 rfl O4 (cOwn 0 rfl rfl)) rfl ?_)
      refine lGY rfl rfl rfl (oV (yMove rfl) rfl ?_)
      refine splitB (t := 20) rfl (fun h20 => ?_) (fun h20 => ?_)
      · refine lGY rfl rfl rfl (oV (yLoad1 rfl O162 (cOldB (h2) rfl)) rfl ?_)
        refine lGY rfl rfl rfl (oV (yFieldAddr rfl F58_3) rfl ?_)
        refine lGY rfl rfl rfl (oV (yLoadA (vs := [_, _]) rfl A23 (cOwn 0 rfl rfl)) rfl ?_)
        refine lGY rfl rfl rfl (oV (yCall rfl (.c rfl .n) C127 (fun w hw => sky_any _ w)) rfl ?_)
        refine lGY rfl rfl rfl (oV (yNot rfl) rfl ?_)
        refine lGY rfl rfl rfl (oV (yMove rfl) rfl ?_)
        refine splitB (t := 26) rfl (fun h26 => ?_) (fun h26 => ?_)
        · refine lGN rfl rfl rfl rfl rfl ?_
          refine lGN rfl rfl rfl rfl rfl ?_
          refine lGN rfl rfl rfl rfl rfl ?_
          refine lGN rfl rfl rfl rfl rfl ?_
          refine lGN rfl rfl rfl rfl rfl ?_
          refine lGY rfl rfl rfl (oV (yPickT rfl rfl) rfl ?_)
          refine lGY rfl rfl rfl (oV (yPickT rfl rfl) rfl ?_)
          refine lV (yPickF rfl rfl) rfl rfl ?_
          refine lV (yAssign rfl) rfl rfl ?_
          refine lNil ?_
          refine kThen ?_
          refine kRet ?_
          refine fRet rfl (.t rfl .n) (endRet ?_)
          simp only [packV]; rw [hv]; simp [*]
        · refine lGY rfl rfl rfl (oV (yLoad1 rfl O162 (cOldB (h2) rfl)) rfl ?_)
          refine lGY rfl rfl rfl (oV (yFieldAddr rfl F58_4) rfl ?_)
          refine lGY rfl rfl rfl (oV (yLoadA (vs := [_, _]) rfl A23 (cOwn 0 rfl rfl)) rfl ?_)
          refine lGY rfl rfl rfl (oV (yCall rfl (.c rfl .n) C127 (fun w hw => sky_any _ w)) rfl ?_)
          refine lGY rfl rfl rfl (oV (yNot rfl) rfl ?_)
          refine lGY rfl rfl rfl (oV (yPickF rfl rfl) rfl ?_)
          refine lGY rfl rfl rfl (oV (yPickT rfl rfl) rfl ?_)
          refine lV (yPickF rfl rfl) rfl rfl ?_
          refine lV (yAssign rfl) rfl rfl ?_
          refine lNil ?_
          refine kThen ?_
          refine kRet ?_
          refine fRet rfl (.t rfl .n) (endRet ?_)
          simp only [packV]; rw [hv]; simp [*]
      · refine lGN rfl rfl rfl rfl rfl ?_
        refine lGN rfl rfl rfl rfl rfl ?_
        refine lGN rfl rfl rfl rfl rfl ?_
        refine lGN rfl rfl rfl rfl rfl ?_
        refine lGN rfl rfl rfl rfl rfl ?_
        refine lGN rfl rfl rfl rfl rfl ?_
        refine lGU rfl rfl rfl rfl ?_
        refine lGU rfl rfl rfl rfl ?_
        refine lGU rfl rfl rfl rfl ?_
        refine lGU rfl rfl rfl rfl ?_
        refine lGU rfl rfl rfl rfl ?_
        refine lGN rfl rfl rfl rfl rfl ?_
        refine lGY rfl rfl rfl (oV (yPickF rfl rfl) rfl ?_)
        refine lV (yPickF rfl rfl) rfl rfl ?_
        refine lV (yAssign rfl) rfl rfl ?_
        refine lNil ?_
        refine kThen ?_
        refine kRet ?_
        refine fRet rfl (.t rfl .n) (endRet ?_)
        simp only [packV]; rw [hv]; simp [*]
end Go.Proofs.Ytlcdohhhhlhpmaa
namespace Go.Proofs.Ytlcdohhhhlhpmaa
open ZW

/-- Where the first one is of which something is so; -1: nowhere. -/
def idxP {α : Type} (p : α → Bool) (l : List α) : Int := match l.findIdx? p with
  | some i => (i : Int)
  | none => -1
theorem idxP_none {α : Type} {p : α → Bool} {l : List α} (d : α) (h : ∀ j, j < l.length → p (l.getD j d) = false) : idxP p l = -1 := by
  have : l.findIdx? p = none := by
    rw [List.findIdx?_eq_none_iff]
    intro x hx
    obtain ⟨j, hj, rfl⟩ := List.mem_iff_getElem.1 hx
    have := h j hj
    rw [← List.getElem_eq_getD (h := hj)] at this
    exact this
  simp [idxP, this]
theorem idxP_some {α : Type} {p : α → Bool} {l : List α} {i : Nat} (d : α) (hi : i < l.length) (hp : p (l.getD i d) = true) (h : ∀ j, j < i → p (l.getD j d) = false) : idxP p l = i := by
  have : l.findIdx? p = some i := by
    rw [List.findIdx?_eq_some_iff_getElem]
    refine ⟨hi, by rw [← List.getElem_eq_getD (h := hi)] at hp; exact hp, fun j hj => ?_⟩
    have h1 := h j hj
    rw [← List.getElem_eq_getD (h := by omega)] at h1
    simp [h1]
  simp [idxP, this]
theorem idxP_ge {α : Type} (p : α → Bool) (l : List α) : decide (idxP p l ≥ 0) = l.any p := by
  by_cases h : l.any p = true
  · rw [h]
    obtain ⟨i, hi, hp⟩ : ∃ i, l.findIdx? p = some i ∧ True := by
      cases hf : l.findIdx? p with
      | some i => exact ⟨i, rfl, trivial⟩
      | none =>
        rw [List.findIdx?_eq_none_iff] at hf
        rw [List.any_eq_true] at h
        obtain ⟨x, hx, hp⟩ := h
        rw [hf x hx] at hp; cases hp
    simp [idxP, hi]
  · have h' : l.any p = false := by simpa using h
    rw [h']
    have hf : l.findIdx? p = none := by
      rw [List.findIdx?_eq_none_iff]
      intro x hx
      rw [List.any_eq_false] at h'
      simpa using h' x hx
    simp [idxP, hf]

section
variable (a : Option Addr) (c n : Nat) (F : FuncId) (caps : List Value) (w : World)

set_option maxRecDepth 100000 in
theorem indexStar_any (l : List StarV) (p : StarV → Bool) (hn : n = l.length) (hl : n ≤ 1000000) (hs : SlE w a n 9 (starC l)) (hf : callT Try.prog F = true)
    (hc : ∀ w', Eff w [] [] w' → ∀ x ∈ l, Calls Try.prog F ([Value.agg (rowS x).toArray] ++ caps).toArray w' (Ret w' (.bool (p x)))) :
    Calls Try.prog 140 [.slice a n c, .func (.func F) [].toArray caps.toArray].toArray w (Ret w (i64 (idxP p l))) := by
  subst hn
  refine fEnter Try.func140 rfl Try.ntmps140 rfl ?_
  refine kSeq ?_
  refine kRegion rfl ?_
  refine lV (yAssign rfl) rfl rfl ?_
  refine lNil ?_
  refine kThen ?_
  refine kSeq ?_
  refine kSeq ?_
  refine kRegion rfl ?_
  refine lV (yMove rfl) rfl rfl ?_
  refine lV (yLen rfl S24) rfl rfl ?_
  refine lV (yMove rfl) rfl rfl ?_
  refine lNil ?_
  refine kThen ?_
  refine kBlock ?_
  refine kLoopX (ι := Nat) (fun i => i ≤ l.length ∧ ∀ j, j < i → p (l.getD j star0) = false) (fun i => [(8, i64 (i : Nat))]) [(0, _), (1, _), (6, _), (7, _)] (fun i => []) (fun i => []) [] (fun i => l.length - i) 0 (⟨Nat.zero_le _, fun j hj => absurd hj (by omega)⟩) rfl (.c rfl .n) (.c rfl (.c rfl (.c rfl (.c rfl .n)))) .n ?_
  rintro i ⟨hi, hj⟩
  refine kSeq ?_
  refine kRegion rfl ?_
  refine lV (yLss rfl rfl) rfl rfl ?_
  refine lNil ?_
  refine kThen ?_
  refine kSeq ?_
  refine split (t := 9) rfl (fun h9 => ?_) (fun h9 => ?_)
  · refine kIfT rfl ?_
    refine kSkip ?_
    refine kThen ?_
    refine kSeq ?_
    refine kBlock ?_
    refine kSeq ?_
    refine kRegion rfl ?_
    refine lV (yMove rfl) rfl rfl ?_
    refine lV (yAssign rfl) rfl rfl ?_
    refine lNil ?_
    refine kThen ?_
    refine kSeq ?_
    refine kRegion rfl ?_
    refine lV (yMove rfl) rfl rfl ?_
    refine lV (yMove rfl) rfl rfl ?_
    refine lV (yMove rfl) rfl rfl ?_
    refine lV (yIndexS  rfl rfl S24 (hs.r) ((by omega))) rfl rfl ?_
    refine lV (yLoadA (vs := [_, _, _, _, _, _, _, _, _]) rfl A58 (cSl0 (hs.r) ((by omega)) rfl)) rfl rfl ?_
    refine lV (yCall (us := []) (cs := caps) rfl (.c rfl .n) hf (fun w' hw => hc w' (hw.forget (List.nil_sublist _)) _ (getD_mem (i := i) (by omega) star0))) rfl rfl ?_
    refine lNil ?_
    refine kThen ?_
    refine splitB (t := 16) rfl (fun h16 => ?_) (fun h16 => ?_)
    · refine kIfT rfl ?_
      refine kSeq ?_
      refine kRegion rfl ?_
      refine lV (yMove rfl) rfl rfl ?_
      refine lV (yAssign rfl) rfl rfl ?_
      refine lNil ?_
      refine kThen ?_
      refine kRet ?_
      refine kInR ?_
      refine kThenR ?_
      refine kThenR ?_
      refine kInR ?_
      refine kThenR ?_
      refine fRet rfl (.t rfl .n) (endRet ?_)
      simp only [packV]; rw [idxP_some star0 (by omega) h16 hj]
    · refine kIfF rfl ?_
      refine kSkip ?_
      refine kInN ?_
      refine kThen ?_
      refine kRegion rfl ?_
      refine lV (yAdd rfl rfl (by omega)) rfl rfl ?_
      refine lV (yMove rfl) rfl rfl ?_
      refine lNil ?_
      exact kRoundX (i + 1) (⟨by omega, fun j hl => by rcases Nat.lt_or_ge j i with h | h; (· exact hj j h); (obtain rfl : j = i := by omega); exact h16⟩) (by omega) rfl (.c rfl .n) (.c rfl (.c rfl (.c rfl (.c rfl .n)))) .n
  · refine kIfF rfl ?_
    refine kExit ?_
    refine kThenX ?_
    refine kThenX ?_
    refine kInX ?_
    refine kThen ?_
    refine kSeq ?_
    refine kRegion rfl ?_
    refine lV (yAssign rfl) rfl rfl ?_
    refine lNil ?_
    refine kThen ?_
    refine kRet ?_
    refine fRet rfl (.t rfl .n) (endRet ?_)
    simp only [packV]; rw [idxP_none star0 fun j hl => hj j (by omega)]
set_option maxRecDepth 100000 in
theorem containsStar_any (l : List StarV) (p : StarV → Bool) (hn : n = l.length) (hl : n ≤ 1000000) (hs : SlE w a n 9 (starC l)) (hf : callT Try.prog F = true)
    (hc : ∀ w', Eff w [] [] w' → ∀ x ∈ l, Calls Try.prog F ([Value.agg (rowS x).toArray] ++ caps).toArray w' (Ret w' (.bool (p x)))) :
    Calls Try.prog 129 [.slice a n c, .func (.func F) [].toArray caps.toArray].toArray w (Ret w (.bool (l.any p))) := by
  refine fEnter Try.func129 rfl Try.ntmps129 rfl ?_
  refine kSeq ?_
  refine kRegion rfl ?_
  refine lV (yAssign rfl) rfl rfl ?_
  refine lNil ?_
  refine kThen ?_
  refine kSeq ?_
  refine kRegion rfl ?_
  refine lV (yMove rfl) rfl rfl ?_
  refine lV (yMove rfl) rfl rfl ?_
  refine lV (yCall rfl (.c rfl (.c rfl .n)) C140 (fun w hw => indexStar_any _ _ _ _ _ w l p hn hl (hs.eff0 hw) hf (fun w' hw' x hx => hc w' (by simpa using hw.trans hw') x hx))) rfl rfl ?_
  refine lV (yGeq rfl rfl) rfl rfl ?_
  refine lV (yAssign rfl) rfl rfl ?_
  refine lNil ?_
  refine kThen ?_
  refine kRet ?_
  refine fRet rfl (.t rfl .n) (endRet ?_)
  simp only [packV]; rw [idxP_ge]

end

theorem plt_val (p : Plt) (h1 : spanOk 1 1000 p.sc) (h2 : p.st.length ≤ 10) : (!(p.st.any fun x => !decide (starOk x))) = decide (PltOk p) := by
  rw [Bool.eq_iff_iff, Bool.not_eq_true', List.any_eq_false, decide_eq_true_eq]
  constructor
  · exact fun h => ⟨h1, h2, fun x hx => by simpa using h x hx⟩
  · exact fun h x hx => by simpa using h.s x hx
set_option maxRecDepth 100000 in
theorem isPlate_any (y : Option Addr × Nat) (p : Plt) (w : World) (hm : InP w y p) : Calls Try.prog 112 [.agg (pltC y p).toArray].toArray w (Ret w (.bool (decide (PltOk p)))) := by
  refine fEnter Try.func112 rfl Try.ntmps112 rfl ?_
  refine kSeq ?_
  refine kRegion rfl ?_
  refine lE rfl ?_
  refine eBoxA rfl fun n1 => ?_
  refine lV (yAssign rfl) rfl rfl ?_
  refine lNil ?_
  refine kThen ?_
  refine kSeq ?_
  refine kRegion rfl ?_
  refine lE rfl ?_
  refine eAlloc Z162 fun n3 => ?_
  refine lE rfl ?_
  refine eStoreL 0 rfl rfl rfl rfl K162 rfl (rfl) ?_
  refine lNil ?_
  refine kThen ?_
  refine kSeq ?_
  refine kRegion rfl ?_
  refine lE rfl ?_
  refine eAlloc Z162 fun n4 => ?_
  refine lE rfl ?_
  refine eStoreL 0 rfl rfl rfl rfl K162 rfl (rfl) ?_
  refine lNil ?_
  refine kThen ?_
  refine kSeq ?_
  refine kRegion rfl ?_
  refine lV (yMakeFunc .n (.c rfl (.c rfl .n))) rfl rfl ?_
  refine lV (yAssign rfl) rfl rfl ?_
  refine lNil ?_
  refine kThen ?_
  refine kSeq ?_
  refine kRegion rfl ?_
  refine lV (yFieldAddr rfl F26_0) rfl rfl ?_
  refine lV (yFieldAddr rfl F23_0) rfl rfl ?_
  refine lV (yLoad1 rfl O3 (cOwn 2 rfl rfl)) rfl rfl ?_
  refine lV (yFieldAddr rfl F26_0) rfl rfl ?_
  refine lV (yFieldAddr rfl F23_1) rfl rfl ?_
  refine lV (yLoad1 rfl O3 (cOwn 2 rfl rfl)) rfl rfl ?_
  refine lE rfl ?_
  refine eBuildSlice (.c rfl (.c rfl (.c rfl (.c rfl .n)))) (fun w => BS56_4_0_1_2_3 w) fun n13 => ?_
  refine lV (yCall rfl (.c rfl .n) C126 (fun w hw => ordered_any _ _ _ _ _ w (hw.blkAt 0 rfl))) rfl rfl ?_
  refine lV (yMove rfl) rfl rfl ?_
  refine split (t := 15) rfl (fun h15 => ?_) (fun h15 => ?_)
  · refine lGY rfl rfl rfl (oV (yFieldAddr rfl F26_1) rfl ?_)
    refine lGY rfl rfl rfl (oV (yLoad1 rfl O24 (cOwn 3 rfl rfl)) rfl ?_)
    refine lGY rfl rfl rfl (oV (yLen rfl S24) rfl ?_)
    refine lGY rfl rfl rfl (oV (yLeq rfl rfl) rfl ?_)
    refine lV (yPickT rfl rfl) rfl rfl ?_
    refine lV (yMove rfl) rfl rfl ?_
    refine split (t := 21) rfl (fun h21 => ?_) (fun h21 => ?_)
    · refine lGY rfl rfl rfl (oV (yFieldAddr rfl F26_1) rfl ?_)
      refine lGY rfl rfl rfl (oV (yLoad1 rfl O24 (cOwn 3 rfl rfl)) rfl ?_)
      refine lGY rfl rfl rfl (oV (yMove rfl) rfl ?_)
      refine lGY rfl rfl rfl (oV (yCall rfl (.c rfl (.c rfl .n)) C129 (fun w hw => containsStar_any _ _ _ _ _ w p.st (fun x => !decide (starOk x)) rfl (by omega) (hm.eff0 hw) C128 (fun w' hw' x _ => bad_any _ _ x w' (hw'.old' (hw.blkAt 2 rfl)) (hw'.old' (hw.blkAt 1 rfl))))) rfl ?_)
      refine lGY rfl rfl rfl (oV (yNot rfl) rfl ?_)
      refine lV (yPickT rfl rfl) rfl rfl ?_
      refine lV (yAssign rfl) rfl rfl ?_
      refine lNil ?_
      refine kThen ?_
      refine kRet ?_
      refine fRet rfl (.t rfl .n) (endRet ?_)
      simp only [packV]; rw [plt_val p h15 (by omega)]
    · refine lGN rfl rfl rfl rfl rfl ?_
      refine lGN rfl rfl rfl rfl rfl ?_
      refine lGN rfl rfl rfl rfl rfl ?_
      refine lGN rfl rfl rfl rfl rfl ?_
      refine lGN rfl rfl rfl rfl rfl ?_
      refine lV (yPickF rfl rfl) rfl rfl ?_
      refine lV (yAssign rfl) rfl rfl ?_
      refine lNil ?_
      refine kThen ?_
      refine kRet ?_
      refine fRet rfl (.t rfl .n) (endRet ?_)
      simp only [packV]; rw [decide_eq_false fun h : PltOk p => h21 (by have := h.n; omega)]
  · refine lGN rfl rfl rfl rfl rfl ?_
    refine lGN rfl rfl rfl rfl rfl ?_
    refine lGN rfl rfl rfl rfl rfl ?_
    refine lGN rfl rfl rfl rfl rfl ?_
    refine lV (yPickF rfl rfl) rfl rfl ?_
    refine lV (yMove rfl) rfl rfl ?_
    refine lGN rfl rfl rfl rfl rfl ?_
    refine lGN rfl rfl rfl rfl rfl ?_
    refine lGN rfl rfl rfl rfl rfl ?_
    refine lGN rfl rfl rfl rfl rfl ?_
    refine lGN rfl rfl rfl rfl rfl ?_
    refine lV (yPickF rfl rfl) rfl rfl ?_
    refine lV (yAssign rfl) rfl rfl ?_
    refine lNil ?_
    refine kThen ?_
    refine kRet ?_
    refine fRet rfl (.t rfl .n) (endRet ?_)
    simp only [packV]; rw [decide_eq_false fun h : PltOk p => h15 h.c]
end Go.Proofs.Ytlcdohhhhlhpmaa
namespace Go.Proofs.Ytlcdohhhhlhpmaa
open ZW

set_option maxRecDepth 100000 in
theorem within_any (n a b : Int) (w : World) : Calls Try.prog 75 [i64 n, i64 a, i64 b].toArray w (Ret w (.bool (decide (a ≤ n ∧ n ≤ b)))) := by
  refine fEnter Try.func75 rfl Try.ntmps75 rfl ?_
  refine kSeq ?_
  refine kRegion rfl ?_
  refine lV (yAssign rfl) rfl rfl ?_
  refine lNil ?_
  refine kThen ?_
  refine kSeq ?_
  refine kRegion rfl ?_
  refine lV (yMove rfl) rfl rfl ?_
  refine lV (yMove rfl) rfl rfl ?_
  refine lV (yLeq rfl rfl) rfl rfl ?_
  refine lV (yMove rfl) rfl rfl ?_
  refine split (t := 10) rfl (fun h10 => ?_) (fun h10 => ?_)
  · refine lGY rfl rfl rfl (oV (yMove rfl) rfl ?_)
    refine lGY rfl rfl rfl (oV (yMove rfl) rfl ?_)
    refine lGY rfl rfl rfl (oV (yLeq rfl rfl) rfl ?_)
    refine lV (yPickT rfl rfl) rfl rfl ?_
    refine lV (yAssign rfl) rfl rfl ?_
    refine lNil ?_
    refine kThen ?_
    refine kRet ?_
    refine fRet rfl (.t rfl .n) (endRet ?_)
    simp [packV, *]
  · refine lGN rfl rfl rfl rfl rfl ?_
    refine lGN rfl rfl rfl rfl rfl ?_
    refine lGN rfl rfl rfl rfl rfl ?_
    refine lV (yPickF rfl rfl) rfl rfl ?_
    refine lV (yAssign rfl) rfl rfl ?_
    refine lNil ?_
    refine kThen ?_
    refine kRet ?_
    refine fRet rfl (.t rfl .n) (endRet ?_)
    simp [packV, *]
set_option maxRecDepth 100000 in
theorem need_ok (e : Int) (w : World) : Calls Try.prog 76 [.bool true, i64 e].toArray w (Ret w (.tuple #[])) := by
  refine fEnter Try.func76 rfl Try.ntmps76 rfl ?_
  refine kSeq ?_
  refine kRegion rfl ?_
  refine lV (yMove rfl) rfl rfl ?_
  refine lV (yNot rfl) rfl rfl ?_
  refine lNil ?_
  refine kThen ?_
  refine kIfF rfl ?_
  refine kSkip ?_
  refine fEnd rfl .n (endRet ?_)
  rfl
abbrev misV (e : Int) : Value := .iface 129 (.agg [i64 e].toArray)
set_option maxRecDepth 100000 in
theorem need_pan (e : Int) (w : World) : Calls Try.prog 76 [.bool false, i64 e].toArray w (Pan w (misV e)) := by
  refine fEnter Try.func76 rfl Try.ntmps76 rfl ?_
  refine kSeq ?_
  refine kRegion rfl ?_
  refine lV (yMove rfl) rfl rfl ?_
  refine lV (yNot rfl) rfl rfl ?_
  refine lNil ?_
  refine kThen ?_
  refine kIfT rfl ?_
  refine kRegion rfl ?_
  refine lV (yMove rfl) rfl rfl ?_
  refine lV (yBuild (.c rfl .n) (fun w => B129_0 w)) rfl rfl ?_
  refine lV (yMakeInterface rfl I129) rfl rfl ?_
  refine lE rfl ?_
  refine ePanic rfl ?_
  exact fPan (endPan rfl)
set_option maxRecDepth 100000 in
theorem caught_nil (v : Value) (w : World) : Calls Try.prog 53 [.nilIface, v].toArray w (Ret w (.tuple #[])) := by
  refine fEnter Try.func53 rfl Try.ntmps53 rfl ?_
  refine kSeq ?_
  refine kSeq ?_
  refine kRegion rfl ?_
  refine lV (yMove rfl) rfl rfl ?_
  refine lV (yEqNilNil' rfl J20) rfl rfl ?_
  refine lNil ?_
  refine kThen ?_
  refine kIfT rfl ?_
  refine kRet ?_
  refine kThenR ?_
  refine fRet rfl .n (endRet ?_)
  rfl
set_option maxRecDepth 100000 in
theorem caught_mis (e x : Int) (n : Nat) (w : World) (hb : w.heap[n]? = some (blk [i64 x] 29)) : Calls Try.prog 53 [misV e, .pointer (some ⟨n, 0, none⟩)].toArray w (Wr w n (blk [i64 e] 29) (.tuple #[])) := by
  refine fEnterM (Eff.one hb) Try.func53 rfl Try.ntmps53 rfl ?_
  refine kSeq ?_
  refine kSeq ?_
  refine kRegion rfl ?_
  refine lV (yMove rfl) rfl rfl ?_
  refine lV (yEqNilIf' rfl J20) rfl rfl ?_
  refine lNil ?_
  refine kThen ?_
  refine kIfF rfl ?_
  refine kSkip ?_
  refine kThen ?_
  refine kSeq ?_
  refine kRegion rfl ?_
  refine lV (yMove rfl) rfl rfl ?_
  refine lV (yAssertY rfl I129) rfl rfl ?_
  refine lV (yMove rfl) rfl rfl ?_
  refine lV (yExtract rfl rfl) rfl rfl ?_
  refine lV (yExtract rfl rfl) rfl rfl ?_
  refine lE rfl ?_
  refine eAlloc Z129 fun n4 => ?_
  refine lE rfl ?_
  refine eStoreL 0 rfl rfl rfl rfl K129 rfl (rfl) ?_
  refine lV (yAssign rfl) rfl rfl ?_
  refine lNil ?_
  refine kThen ?_
  refine kSeq ?_
  refine kSeq ?_
  refine kRegion rfl ?_
  refine lV (yMove rfl) rfl rfl ?_
  refine lV (yNot rfl) rfl rfl ?_
  refine lNil ?_
  refine kThen ?_
  refine kIfF rfl ?_
  refine kSkip ?_
  refine kThen ?_
  refine kRegion rfl ?_
  refine lV (yMove rfl) rfl rfl ?_
  refine lV (yFieldAddr rfl F129_0) rfl rfl ?_
  refine lV (yLoad1 rfl O29 (cOwn 1 rfl rfl)) rfl rfl ?_
  refine lV (yNilCheckP rfl) rfl rfl ?_
  refine lE rfl ?_
  refine eStoreM 0 rfl rfl rfl rfl K29 rfl (rfl) ?_
  refine lNil ?_
  refine fEnd rfl .n ?_
  exact endW rfl rfl

/-! ### Deferred closures that catch a misfit -/
structure Catch (f : FuncId) : Prop where
  ret : ∀ p w, CallsDIn (FW none) 0 Try.prog f #[p] .returning w (fun e u' w' => (∃ v, e = .returned v) ∧ u' = .returning ∧ Eff w [] [] w')
  pan : ∀ (n : Nat) (x e : Int) (w : World), w.heap[n]? = some (blk [i64 x] 29) → CallsDIn (FW none) 0 Try.prog f #[.pointer (some ⟨n, 0, none⟩)] (.panicking [{ v := misV e, recovered := false }]) w
    (fun en u' w' => (∃ v, en = .returned v) ∧ u' = .panicking [{ v := misV e, recovered := true }] ∧ Eff w [(n, blk [i64 e] 29)] [] w')
theorem catchOf {f : FuncId} {fn : Func} {id : Nat} {T1 T2 : TypeId} {p1 p2 : String} {af1 af2 : Array Edge} {tys : Array TypeId}
    (hf : Try.prog.funcs[f]? = some fn)
    (hb : fn.body = some (.region id #[⟨some 1, .call ⟨.builtin .recover, #[], #[]⟩, T1, p1, af1, none⟩, ⟨some 2, .call ⟨.value (.func 53), #[.tmp 1, .tmp 0], tys⟩, T2, p2, af2, none⟩] false))
    (hn : fn.ntmps = 3) (hr : fn.results = #[]) : Catch f where
  ret p w := catchD hf hb hn hr C53 (x := .nilIface) (fun c₀ cs h => recover_idle c₀ cs h) ((caught_nil p w).mono fun _ _ ⟨he, hE⟩ => ⟨⟨_, he⟩, hE⟩)
  pan n x e w h := catchD hf hb hn hr C53 (x := misV e) (fun c₀ cs h => recover_some _ c₀ cs h) ((caught_mis e x n w h).mono fun _ _ ⟨he, hE⟩ => ⟨⟨_, he⟩, hE⟩)
theorem DScale : Catch 52 := catchOf Try.func52 rfl rfl rfl
theorem DZero : Catch 58 := catchOf Try.func58 rfl rfl rfl
theorem DStar : Catch 63 := catchOf Try.func63 rfl rfl rfl
theorem DApart : Catch 68 := catchOf Try.func68 rfl rfl rfl
theorem DFind : Catch 73 := catchOf Try.func73 rfl rfl rfl
theorem DClash : Catch 78 := catchOf Try.func78 rfl rfl rfl
theorem DDrop : Catch 86 := catchOf Try.func86 rfl rfl rfl
theorem DPoor : Catch 88 := catchOf Try.func88 rfl rfl rfl
section
variable {N : Nat} {S : Slots} {W : World} {M L : Heap} {fn : Func} {rs : List ResultVar} {vs : List Value} {R : Ending → World → Prop} {f : FuncId} {p : Value}
theorem fRetC (hC : Catch f) (hg : callT Try.prog f = true) (hr : fn.results = rs.toArray) (h : ResV Try.prog S (Eff W M L) rs vs) (k : ∀ w, Eff W M L w → R (.returned (packV vs)) w) :
    Tr (St N S [dfr f p] W M L) (bodyPostM (FW none) 0 Try.prog fn R .ret) := fRetD hg hr h (fun w _ => hC.ret p w) k
theorem fPanC {n : Nat} {x e : Int} (i : Nat) (hC : Catch f) (hg : callT Try.prog f = true) (hi : L[i]? = some (n, blk [i64 x] 29)) (hr : fn.results = rs.toArray) (h : ResV Try.prog S (Eff W M (upd L i (blk [i64 e] 29))) rs vs)
    (k : ∀ w, Eff W M (upd L i (blk [i64 e] 29)) w → R (.returned (packV vs)) w) :
    Tr (St N S [dfr f (.pointer (some ⟨n, 0, none⟩))] W M L) (bodyPostM (FW none) 0 Try.prog fn R (.panic [{ v := misV e, recovered := false }])) :=
  fPanD hg hr h (fun w hw => (hC.pan n x e w (hw.own _ (List.mem_append.2 (.inr (List.mem_of_getElem? hi))))).mono fun _ _ _ ⟨h1, h2, h3⟩ => ⟨h1, h2, by simpa using hw.wroteL hi h3⟩) k
end

/-! ### The least and the greatest of what is kept -/
structure Ends where
  lo : Int
  hi : Int
  some : Bool
def keepE (a : Ends) (x : Int) : Ends := if a.some then ⟨min a.lo x, max a.hi x, true⟩ else ⟨x, x, true⟩
abbrev endC (a : Ends) : List Value := [i64 a.lo, i64 a.hi, .bool a.some]
abbrev endC2 (a b : Ends) : List Value := [i64 a.lo, i64 a.hi, .bool a.some, i64 b.lo, i64 b.hi, .bool b.some]
abbrev end0 : Ends := ⟨0, 0, false⟩
set_option maxRecDepth 100000 in
set_option maxHeartbeats 4000000 in
theorem keep1 (n : Nat) (a : Ends) (x : Int) (w : World) (hb : w.heap[n]? = some (blk (endC a) 86)) : Calls Try.prog 54 [.pointer (some ⟨n, 0, none⟩), i64 x].toArray w (Wr w n (blk (endC (keepE a x)) 86) (.tuple #[])) := by
  refine fEnterM (Eff.one hb) Try.func54 rfl Try.ntmps54 rfl ?_
  refine kSeq ?_
  refine kSeq ?_
  refine kRegion rfl ?_
  refine lV (yMove rfl) rfl rfl ?_
  refine lV (yNilCheckP rfl) rfl rfl ?_
  refine lV (yFieldAddr rfl F86_2) rfl rfl ?_
  refine lV (yLoad1 rfl O4 (cOwn 0 rfl rfl)) rfl rfl ?_
  refine lV (yNot rfl) rfl rfl ?_
  refine splitB (t := 8) rfl (fun h8 => ?_) (fun h8 => ?_)
  · refine lNil ?_
    refine kThen ?_
    refine kIfT rfl ?_
    refine kRegion rfl ?_
    refine lV (yMove rfl) rfl rfl ?_
    refine lV (yMove rfl) rfl rfl ?_
    refine lV (yMove rfl) rfl rfl ?_
    refine lV (yMove rfl) rfl rfl ?_
    refine lV (yMove rfl) rfl rfl ?_
    refine lV (yNilCheckP rfl) rfl rfl ?_
    refine lV (yFieldAddr rfl F86_0) rfl rfl ?_
    refine lE rfl ?_
    refine eStoreM 0 rfl rfl rfl rfl K3 rfl (rfl) ?_
    refine lV (yNilCheckP rfl) rfl rfl ?_
    refine lV (yFieldAddr rfl F86_1) rfl rfl ?_
    refine lE rfl ?_
    refine eStoreM 0 rfl rfl rfl rfl K3 rfl (rfl) ?_
    refine lV (yNilCheckP rfl) rfl rfl ?_
    refine lV (yFieldAddr rfl F86_2) rfl rfl ?_
    refine lE rfl ?_
    refine eStoreM 0 rfl rfl rfl rfl K4 rfl (rfl) ?_
    refine lNil ?_
    refine kThen ?_
    refine kDrawE [(5, none), (11, none)] [] [0, 1, 2, 3, 4, 5, 6, 7, 8, 9, 10, 11, 12, 13, 14, 15, 17, 18] 2 hMix (by kernel_rfl) ?_
    refine .run rfl (yMove rfl) rfl rfl ?_
    refine .run rfl (yMove rfl) rfl rfl ?_
    refine .run rfl (yMove rfl) rfl rfl ?_
    refine .run rfl (yNilCheckP rfl) rfl rfl ?_
    refine .run rfl (yFieldAddr rfl F86_0) rfl rfl ?_
    refine .run rfl (yLoad1 rfl O3 (cOwn 0 rfl rfl)) rfl rfl ?_
    refine .run rfl (yMove rfl) rfl rfl ?_
    refine .run rfl (yMin rfl rfl) rfl rfl ?_
    refine .run rfl (yMove rfl) rfl rfl ?_
    refine .run rfl (yNilCheckP rfl) rfl rfl ?_
    refine .run rfl (yFieldAddr rfl F86_1) rfl rfl ?_
    refine .run rfl (yLoad1 rfl O3 (cOwn 0 rfl rfl)) rfl rfl ?_
    refine .run rfl (yMove rfl) rfl rfl ?_
    refine .run rfl (yMax rfl rfl) rfl rfl ?_
    refine .run rfl (yNilCheckP rfl) rfl rfl ?_
    refine .run rfl (yFieldAddr rfl F86_0) rfl rfl ?_
    refine .run rfl (yNilCheckP rfl) rfl rfl ?_
    refine .run rfl (yFieldAddr rfl F86_1) rfl rfl ?_
    refine .done ?_
    refine effStep 16 [] (by kernel_rfl) closedSt (hLeft [5, 11] (by kernel_rfl) (.c (fun _ _ hs => hs.ef) (.c (fun _ _ hs => hs.ef) .n))) ?_
    refine .c ?_ .n
    refine effOne rfl (gNone rfl (fStoreM 0 rfl rfl rfl rfl K3 rfl (rfl))) ?_
    refine effStep 19 [] (by kernel_rfl) closedSt (hLeft [] (by kernel_rfl) .n) ?_
    refine .c ?_ .n
    refine effOne rfl (gNone rfl (fStoreM 0 rfl rfl rfl rfl K3 rfl (rfl))) ?_
    refine effDone closedSt (hLeft [] (by kernel_rfl) .n) (by kernel_rfl) ?_
    refine fEnd rfl .n ?_
    have h8' : a.some = false := by simpa using h8
    refine endW rfl ?_
    simp [keepE, h8']; try rfl
  · refine lNil ?_
    refine kThen ?_
    refine kIfF rfl ?_
    refine kSkip ?_
    refine kThen ?_
    refine kDrawE [(5, none), (11, none)] [] [0, 1, 2, 3, 4, 5, 6, 7, 8, 9, 10, 11, 12, 13, 14, 15, 17, 18] 2 hMix (by kernel_rfl) ?_
    refine .run rfl (yMove rfl) rfl rfl ?_
    refine .run rfl (yMove rfl) rfl rfl ?_
    refine .run rfl (yMove rfl) rfl rfl ?_
    refine .run rfl (yNilCheckP rfl) rfl rfl ?_
    refine .run rfl (yFieldAddr rfl F86_0) rfl rfl ?_
    refine .run rfl (yLoad1 rfl O3 (cOwn 0 rfl rfl)) rfl rfl ?_
    refine .run rfl (yMove rfl) rfl rfl ?_
    refine .run rfl (yMin rfl rfl) rfl rfl ?_
    refine .run rfl (yMove rfl) rfl rfl ?_
    refine .run rfl (yNilCheckP rfl) rfl rfl ?_
    refine .run rfl (yFieldAddr rfl F86_1) rfl rfl ?_
    refine .run rfl (yLoad1 rfl O3 (cOwn 0 rfl rfl)) rfl rfl ?_
    refine .run rfl (yMove rfl) rfl rfl ?_
    refine .run rfl (yMax rfl rfl) rfl rfl ?_
    refine .run rfl (yNilCheckP rfl) rfl rfl ?_
    refine .run rfl (yFieldAddr rfl F86_0) rfl rfl ?_
    refine .run rfl (yNilCheckP rfl) rfl rfl ?_
    refine .run rfl (yFieldAddr rfl F86_1) rfl rfl ?_
    refine .done ?_
    refine effStep 16 [] (by kernel_rfl) closedSt (hLeft [5, 11] (by kernel_rfl) (.c (fun _ _ hs => hs.ef) (.c (fun _ _ hs => hs.ef) .n))) ?_
    refine .c ?_ .n
    refine effOne rfl (gNone rfl (fStoreM 0 rfl rfl rfl rfl K3 rfl (rfl))) ?_
    refine effStep 19 [] (by kernel_rfl) closedSt (hLeft [] (by kernel_rfl) .n) ?_
    refine .c ?_ .n
    refine effOne rfl (gNone rfl (fStoreM 0 rfl rfl rfl rfl K3 rfl (rfl))) ?_
    refine effDone closedSt (hLeft [] (by kernel_rfl) .n) (by kernel_rfl) ?_
    refine fEnd rfl .n ?_
    have h8' : a.some = true := by simpa using h8
    refine endW rfl ?_
    simp only [keepE, h8', if_true, endC]; rfl
set_option maxRecDepth 100000 in
set_option maxHeartbeats 4000000 in
theorem keepA (n : Nat) (a b : Ends) (x : Int) (w : World) (hb : w.heap[n]? = some (blk (endC2 a b) 96)) : Calls Try.prog 54 [.pointer (some ⟨n, 0, none⟩), i64 x].toArray w (Wr w n (blk (endC2 (keepE a x) b) 96) (.tuple #[])) := by
  refine fEnterM (Eff.one hb) Try.func54 rfl Try.ntmps54 rfl ?_
  refine kSeq ?_
  refine kSeq ?_
  refine kRegion rfl ?_
  refine lV (yMove rfl) rfl rfl ?_
  refine lV (yNilCheckP rfl) rfl rfl ?_
  refine lV (yFieldAddr rfl F86_2) rfl rfl ?_
  refine lV (yLoad1 rfl O4 (cOwn 0 rfl rfl)) rfl rfl ?_
  refine lV (yNot rfl) rfl rfl ?_
  refine splitB (t := 8) rfl (fun h8 => ?_) (fun h8 => ?_)
  · refine lNil ?_
    refine kThen ?_
    refine kIfT rfl ?_
    refine kRegion rfl ?_
    refine lV (yMove rfl) rfl rfl ?_
    refine lV (yMove rfl) rfl rfl ?_
    refine lV (yMove rfl) rfl rfl ?_
    refine lV (yMove rfl) rfl rfl ?_
    refine lV (yMove rfl) rfl rfl ?_
    refine lV (yNilCheckP rfl) rfl rfl ?_
    refine lV (yFieldAddr rfl F86_0) rfl rfl ?_
    refine lE rfl ?_
    refine eStoreM 0 rfl rfl rfl rfl K3 rfl (rfl) ?_
    refine lV (yNilCheckP rfl) rfl rfl ?_
    refine lV (yFieldAddr rfl F86_1) rfl rfl ?_
    refine lE rfl ?_
    refine eStoreM 0 rfl rfl rfl rfl K3 rfl (rfl) ?_
    refine lV (yNilCheckP rfl) rfl rfl ?_
    refine lV (yFieldAddr rfl F86_2) rfl rfl ?_
    refine lE rfl ?_
    refine eStoreM 0 rfl rfl rfl rfl K4 rfl (rfl) ?_
    refine lNil ?_
    refine kThen ?_
    refine kDrawE [(5, none), (11, none)] [] [0, 1, 2, 3, 4, 5, 6, 7, 8, 9, 10, 11, 12, 13, 14, 15, 17, 18] 2 hMix (by kernel_rfl) ?_
    refine .run rfl (yMove rfl) rfl rfl ?_
    refine .run rfl (yMove rfl) rfl rfl ?_
    refine .run rfl (yMove rfl) rfl rfl ?_
    refine .run rfl (yNilCheckP rfl) rfl rfl ?_
    refine .run rfl (yFieldAddr rfl F86_0) rfl rfl ?_
    refine .run rfl (yLoad1 rfl O3 (cOwn 0 rfl rfl)) rfl rfl ?_
    refine .run rfl (yMove rfl) rfl rfl ?_
    refine .run rfl (yMin rfl rfl) rfl rfl ?_
    refine .run rfl (yMove rfl) rfl rfl ?_
    refine .run rfl (yNilCheckP rfl) rfl rfl ?_
    refine .run rfl (yFieldAddr rfl F86_1) rfl rfl ?_
    refine .run rfl (yLoad1 rfl O3 (cOwn 0 rfl rfl)) rfl rfl ?_
    refine .run rfl (yMove rfl) rfl rfl ?_
    refine .run rfl (yMax rfl rfl) rfl rfl ?_
    refine .run rfl (yNilCheckP rfl) rfl rfl ?_
    refine .run rfl (yFieldAddr rfl F86_0) rfl rfl ?_
    refine .run rfl (yNilCheckP rfl) rfl rfl ?_
    refine .run rfl (yFieldAddr rfl F86_1) rfl rfl ?_
    refine .done ?_
    refine effStep 16 [] (by kernel_rfl) closedSt (hLeft [5, 11] (by kernel_rfl) (.c (fun _ _ hs => hs.ef) (.c (fun _ _ hs => hs.ef) .n))) ?_
    refine .c ?_ .n
    refine effOne rfl (gNone rfl (fStoreM 0 rfl rfl rfl rfl K3 rfl (rfl))) ?_
    refine effStep 19 [] (by kernel_rfl) closedSt (hLeft [] (by kernel_rfl) .n) ?_
    refine .c ?_ .n
    refine effOne rfl (gNone rfl (fStoreM 0 rfl rfl rfl rfl K3 rfl (rfl))) ?_
    refine effDone closedSt (hLeft [] (by kernel_rfl) .n) (by kernel_rfl) ?_
    refine fEnd rfl .n ?_
    have h8' : a.some = false := by simpa using h8
    refine endW rfl ?_
    simp [keepE, h8']; try rfl
  · refine lNil ?_
    refine kThen ?_
    refine kIfF rfl ?_
    refine kSkip ?_
    refine kThen ?_
    refine kDrawE [(5, none), (11, none)] [] [0, 1, 2, 3, 4, 5, 6, 7, 8, 9, 10, 11, 12, 13, 14, 15, 17, 18] 2 hMix (by kernel_rfl) ?_
    refine .run rfl (yMove rfl) rfl rfl ?_
    refine .run rfl (yMove rfl) rfl rfl ?_
    refine .run rfl (yMove rfl) rfl rfl ?_
    refine .run rfl (yNilCheckP rfl) rfl rfl ?_
    refine .run rfl (yFieldAddr rfl F86_0) rfl rfl ?_
    refine .run rfl (yLoad1 rfl O3 (cOwn 0 rfl rfl)) rfl rfl ?_
    refine .run rfl (yMove rfl) rfl rfl ?_
    refine .run rfl (yMin rfl rfl) rfl rfl ?_
    refine .run rfl (yMove rfl) rfl rfl ?_
    refine .run rfl (yNilCheckP rfl) rfl rfl ?_
    refine .run rfl (yFieldAddr rfl F86_1) rfl rfl ?_
    refine .run rfl (yLoad1 rfl O3 (cOwn 0 rfl rfl)) rfl rfl ?_
    refine .run rfl (yMove rfl) rfl rfl ?_
    refine .run rfl (yMax rfl rfl) rfl rfl ?_
    refine .run rfl (yNilCheckP rfl) rfl rfl ?_
    refine .run rfl (yFieldAddr rfl F86_0) rfl rfl ?_
    refine .run rfl (yNilCheckP rfl) rfl rfl ?_
    refine .run rfl (yFieldAddr rfl F86_1) rfl rfl ?_
    refine .done ?_
    refine effStep 16 [] (by kernel_rfl) closedSt (hLeft [5, 11] (by kernel_rfl) (.c (fun _ _ hs => hs.ef) (.c (fun _ _ hs => hs.ef) .n))) ?_
    refine .c ?_ .n
    refine effOne rfl (gNone rfl (fStoreM 0 rfl rfl rfl rfl K3 rfl (rfl))) ?_
    refine effStep 19 [] (by kernel_rfl) closedSt (hLeft [] (by kernel_rfl) .n) ?_
    refine .c ?_ .n
    refine effOne rfl (gNone rfl (fStoreM 0 rfl rfl rfl rfl K3 rfl (rfl))) ?_
    refine effDone closedSt (hLeft [] (by kernel_rfl) .n) (by kernel_rfl) ?_
    refine fEnd rfl .n ?_
    have h8' : a.some = true := by simpa using h8
    refine endW rfl ?_
    simp only [keepE, h8', if_true, endC2]; rfl
set_option maxRecDepth 100000 in
set_option maxHeartbeats 4000000 in
theorem keepB (n : Nat) (a b : Ends) (x : Int) (w : World) (hb : w.heap[n]? = some (blk (endC2 a b) 96)) : Calls Try.prog 54 [.pointer (some ⟨n, 3, none⟩), i64 x].toArray w (Wr w n (blk (endC2 a (keepE b x)) 96) (.tuple #[])) := by
  refine fEnterM (Eff.one hb) Try.func54 rfl Try.ntmps54 rfl ?_
  refine kSeq ?_
  refine kSeq ?_
  refine kRegion rfl ?_
  refine lV (yMove rfl) rfl rfl ?_
  refine lV (yNilCheckP rfl) rfl rfl ?_
  refine lV (yFieldAddr rfl F86_2) rfl rfl ?_
  refine lV (yLoad1 rfl O4 (cOwn 0 rfl rfl)) rfl rfl ?_
  refine lV (yNot rfl) rfl rfl ?_
  refine splitB (t := 8) rfl (fun h8 => ?_) (fun h8 => ?_)
  · refine lNil ?_
    refine kThen ?_
    refine kIfT rfl ?_
    refine kRegion rfl ?_
    refine lV (yMove rfl) rfl rfl ?_
    refine lV (yMove rfl) rfl rfl ?_
    refine lV (yMove rfl) rfl rfl ?_
    refine lV (yMove rfl) rfl rfl ?_
    refine lV (yMove rfl) rfl rfl ?_
    refine lV (yNilCheckP rfl) rfl rfl ?_
    refine lV (yFieldAddr rfl F86_0) rfl rfl ?_
    refine lE rfl ?_
    refine eStoreM 0 rfl rfl rfl rfl K3 rfl (rfl) ?_
    refine lV (yNilCheckP rfl) rfl rfl ?_
    refine lV (yFieldAddr rfl F86_1) rfl rfl ?_
    refine lE rfl ?_
    refine eStoreM 0 rfl rfl rfl rfl K3 rfl (rfl) ?_
    refine lV (yNilCheckP rfl) rfl rfl ?_
    refine lV (yFieldAddr rfl F86_2) rfl rfl ?_
    refine lE rfl ?_
    refine eStoreM 0 rfl rfl rfl rfl K4 rfl (rfl) ?_
    refine lNil ?_
    refine kThen ?_
    refine kDrawE [(5, none), (11, none)] [] [0, 1, 2, 3, 4, 5, 6, 7, 8, 9, 10, 11, 12, 13, 14, 15, 17, 18] 2 hMix (by kernel_rfl) ?_
    refine .run rfl (yMove rfl) rfl rfl ?_
    refine .run rfl (yMove rfl) rfl rfl ?_
    refine .run rfl (yMove rfl) rfl rfl ?_
    refine .run rfl (yNilCheckP rfl) rfl rfl ?_
    refine .run rfl (yFieldAddr rfl F86_0) rfl rfl ?_
    refine .run rfl (yLoad1 rfl O3 (cOwn 0 rfl rfl)) rfl rfl ?_
    refine .run rfl (yMove rfl) rfl rfl ?_
    refine .run rfl (yMin rfl rfl) rfl rfl ?_
    refine .run rfl (yMove rfl) rfl rfl ?_
    refine .run rfl (yNilCheckP rfl) rfl rfl ?_
    refine .run rfl (yFieldAddr rfl F86_1) rfl rfl ?_
    refine .run rfl (yLoad1 rfl O3 (cOwn 0 rfl rfl)) rfl rfl ?_
    refine .run rfl (yMove rfl) rfl rfl ?_
    refine .run rfl (yMax rfl rfl) rfl rfl ?_
    refine .run rfl (yNilCheckP rfl) rfl rfl ?_
    refine .run rfl (yFieldAddr rfl F86_0) rfl rfl ?_
    refine .run rfl (yNilCheckP rfl) rfl rfl ?_
    refine .run rfl (yFieldAddr rfl F86_1) rfl rfl ?_
    refine .done ?_
    refine effStep 16 [] (by kernel_rfl) closedSt (hLeft [5, 11] (by kernel_rfl) (.c (fun _ _ hs => hs.ef) (.c (fun _ _ hs => hs.ef) .n))) ?_
    refine .c ?_ .n
    refine effOne rfl (gNone rfl (fStoreM 0 rfl rfl rfl rfl K3 rfl (rfl))) ?_
    refine effStep 19 [] (by kernel_rfl) closedSt (hLeft [] (by kernel_rfl) .n) ?_
    refine .c ?_ .n
    refine effOne rfl (gNone rfl (fStoreM 0 rfl rfl rfl rfl K3 rfl (rfl))) ?_
    refine effDone closedSt (hLeft [] (by kernel_rfl) .n) (by kernel_rfl) ?_
    refine fEnd rfl .n ?_
    have h8' : b.some = false := by simpa using h8
    refine endW rfl ?_
    simp [keepE, h8']; try rfl
  · refine lNil ?_
    refine kThen ?_
    refine kIfF rfl ?_
    refine kSkip ?_
    refine kThen ?_
    refine kDrawE [(5, none), (11, none)] [] [0, 1, 2, 3, 4, 5, 6, 7, 8, 9, 10, 11, 12, 13, 14, 15, 17, 18] 2 hMix (by kernel_rfl) ?_
    refine .run rfl (yMove rfl) rfl rfl ?_
    refine .run rfl (yMove rfl) rfl rfl ?_
    refine .run rfl (yMove rfl) rfl rfl ?_
    refine .run rfl (yNilCheckP rfl) rfl rfl ?_
    refine .run rfl (yFieldAddr rfl F86_0) rfl rfl ?_
    refine .run rfl (yLoad1 rfl O3 (cOwn 0 rfl rfl)) rfl rfl ?_
    refine .run rfl (yMove rfl) rfl rfl ?_
    refine .run rfl (yMin rfl rfl) rfl rfl ?_
    refine .run rfl (yMove rfl) rfl rfl ?_
    refine .run rfl (yNilCheckP rfl) rfl rfl ?_
    refine .run rfl (yFieldAddr rfl F86_1) rfl rfl ?_
    refine .run rfl (yLoad1 rfl O3 (cOwn 0 rfl rfl)) rfl rfl ?_
    refine .run rfl (yMove rfl) rfl rfl ?_
    refine .run rfl (yMax rfl rfl) rfl rfl ?_
    refine .run rfl (yNilCheckP rfl) rfl rfl ?_
    refine .run rfl (yFieldAddr rfl F86_0) rfl rfl ?_
    refine .run rfl (yNilCheckP rfl) rfl rfl ?_
    refine .run rfl (yFieldAddr rfl F86_1) rfl rfl ?_
    refine .done ?_
    refine effStep 16 [] (by kernel_rfl) closedSt (hLeft [5, 11] (by kernel_rfl) (.c (fun _ _ hs => hs.ef) (.c (fun _ _ hs => hs.ef) .n))) ?_
    refine .c ?_ .n
    refine effOne rfl (gNone rfl (fStoreM 0 rfl rfl rfl rfl K3 rfl (rfl))) ?_
    refine effStep 19 [] (by kernel_rfl) closedSt (hLeft [] (by kernel_rfl) .n) ?_
    refine .c ?_ .n
    refine effOne rfl (gNone rfl (fStoreM 0 rfl rfl rfl rfl K3 rfl (rfl))) ?_
    refine effDone closedSt (hLeft [] (by kernel_rfl) .n) (by kernel_rfl) ?_
    refine fEnd rfl .n ?_
    have h8' : b.some = true := by simpa using h8
    refine endW rfl ?_
    simp only [keepE, h8', if_true, endC2]; rfl
set_option maxRecDepth 100000 in
theorem span_any (a : Ends) (w : World) : Calls Try.prog 56 [.agg (endC a).toArray].toArray w (Ret w (.agg (rowE (a.lo, a.hi)).toArray)) := by
  refine fEnter Try.func56 rfl Try.ntmps56 rfl ?_
  refine kSeq ?_
  refine kRegion rfl ?_
  refine lE rfl ?_
  refine eBoxA rfl fun n1 => ?_
  refine lE rfl ?_
  refine eAlloc Z23 fun n2 => ?_
  refine lNil ?_
  refine kThen ?_
  refine kSeq ?_
  refine kRegion rfl ?_
  refine lV (yFieldAddr rfl F86_0) rfl rfl ?_
  refine lV (yLoad1 rfl O3 (cOwn 1 rfl rfl)) rfl rfl ?_
  refine lV (yFieldAddr rfl F86_1) rfl rfl ?_
  refine lV (yLoad1 rfl O3 (cOwn 1 rfl rfl)) rfl rfl ?_
  refine lV (yBuild (.c rfl (.c rfl .n)) (fun w => B23_0_1 w)) rfl rfl ?_
  refine lE rfl ?_
  refine eStoreL 0 rfl rfl rfl rfl K23 rfl (rfl) ?_
  refine lNil ?_
  refine kThen ?_
  refine kRet ?_
  refine fRet rfl (.cA (us := [_, _]) rfl A23 (cOwn 0 rfl rfl) .n) (endRet ?_)
  rfl
set_option maxRecDepth 100000 in
theorem isStar_any (y : Option Addr × Nat) (p : Plt) (n : Int) (w : World) (hn : p.st.length ≤ 1000000) : Calls Try.prog 64 [.agg (pltC y p).toArray, i64 n].toArray w (Ret w (.bool (decide (0 ≤ n ∧ n ≤ p.st.length - 1)))) := by
  refine fEnter Try.func64 rfl Try.ntmps64 rfl ?_
  refine kSeq ?_
  refine kRegion rfl ?_
  refine lE rfl ?_
  refine eBoxA rfl fun n2 => ?_
  refine lV (yAssign rfl) rfl rfl ?_
  refine lNil ?_
  refine kThen ?_
  refine kSeq ?_
  refine kRegion rfl ?_
  refine lV (yMove rfl) rfl rfl ?_
  refine lV (yFieldAddr rfl F26_1) rfl rfl ?_
  refine lV (yLoad1 rfl O24 (cOwn 0 rfl rfl)) rfl rfl ?_
  refine lV (yLen rfl S24) rfl rfl ?_
  refine lV (ySub rfl rfl (by omega)) rfl rfl ?_
  refine lV (yCall rfl (.c rfl (.c rfl (.c rfl .n))) C75 (fun w hw => within_any _ _ _ w)) rfl rfl ?_
  refine lV (yAssign rfl) rfl rfl ?_
  refine lNil ?_
  refine kThen ?_
  refine kRet ?_
  refine fRet rfl (.t rfl .n) (endRet ?_)
  rfl
end Go.Proofs.Ytlcdohhhhlhpmaa
namespace Go.Proofs.Ytlcdohhhhlhpmaa
open ZW

/-- Along a direction: where the image of a star is, where it is said to be. -/
def imgD (d : Bool) (s : StarV) : Int × Int := if d then s.y else s.x
def saidD (d : Bool) (s : StarV) : Int × Int := if d then s.n else s.e
set_option maxRecDepth 100000 in
theorem wx_any (s : StarV) (w : World) : Calls Try.prog 107 [.agg (rowS s).toArray].toArray w (Ret w (.agg (rowE s.x).toArray)) := by
  refine fEnter Try.func107 rfl Try.ntmps107 rfl ?_
  refine kSeq ?_
  refine kRegion rfl ?_
  refine lE rfl ?_
  refine eBoxA rfl fun n1 => ?_
  refine lE rfl ?_
  refine eAlloc Z23 fun n2 => ?_
  refine lNil ?_
  refine kThen ?_
  refine kSeq ?_
  refine kRegion rfl ?_
  refine lV (yFieldAddr rfl F58_0) rfl rfl ?_
  refine lV (yLoadA (vs := [_, _]) rfl A23 (cOwn 1 rfl rfl)) rfl rfl ?_
  refine lE rfl ?_
  refine eStoreL 0 rfl rfl rfl rfl K23 rfl (rfl) ?_
  refine lNil ?_
  refine kThen ?_
  refine kRet ?_
  refine fRet rfl (.cA (us := [_, _]) rfl A23 (cOwn 0 rfl rfl) .n) (endRet ?_)
  rfl
set_option maxRecDepth 100000 in
theorem we_any (s : StarV) (w : World) : Calls Try.prog 108 [.agg (rowS s).toArray].toArray w (Ret w (.agg (rowE s.e).toArray)) := by
  refine fEnter Try.func108 rfl Try.ntmps108 rfl ?_
  refine kSeq ?_
  refine kRegion rfl ?_
  refine lE rfl ?_
  refine eBoxA rfl fun n1 => ?_
  refine lE rfl ?_
  refine eAlloc Z23 fun n2 => ?_
  refine lNil ?_
  refine kThen ?_
  refine kSeq ?_
  refine kRegion rfl ?_
  refine lV (yFieldAddr rfl F58_3) rfl rfl ?_
  refine lV (yLoadA (vs := [_, _]) rfl A23 (cOwn 1 rfl rfl)) rfl rfl ?_
  refine lE rfl ?_
  refine eStoreL 0 rfl rfl rfl rfl K23 rfl (rfl) ?_
  refine lNil ?_
  refine kThen ?_
  refine kRet ?_
  refine fRet rfl (.cA (us := [_, _]) rfl A23 (cOwn 0 rfl rfl) .n) (endRet ?_)
  rfl
set_option maxRecDepth 100000 in
theorem wy_any (s : StarV) (w : World) : Calls Try.prog 109 [.agg (rowS s).toArray].toArray w (Ret w (.agg (rowE s.y).toArray)) := by
  refine fEnter Try.func109 rfl Try.ntmps109 rfl ?_
  refine kSeq ?_
  refine kRegion rfl ?_
  refine lE rfl ?_
  refine eBoxA rfl fun n1 => ?_
  refine lE rfl ?_
  refine eAlloc Z23 fun n2 => ?_
  refine lNil ?_
  refine kThen ?_
  refine kSeq ?_
  refine kRegion rfl ?_
  refine lV (yFieldAddr rfl F58_1) rfl rfl ?_
  refine lV (yLoadA (vs := [_, _]) rfl A23 (cOwn 1 rfl rfl)) rfl rfl ?_
  refine lE rfl ?_
  refine eStoreL 0 rfl rfl rfl rfl K23 rfl (rfl) ?_
  refine lNil ?_
  refine kThen ?_
  refine kRet ?_
  refine fRet rfl (.cA (us := [_, _]) rfl A23 (cOwn 0 rfl rfl) .n) (endRet ?_)
  rfl
set_option maxRecDepth 100000 in
theorem wn_any (s : StarV) (w : World) : Calls Try.prog 110 [.agg (rowS s).toArray].toArray w (Ret w (.agg (rowE s.n).toArray)) := by
  refine fEnter Try.func110 rfl Try.ntmps110 rfl ?_
  refine kSeq ?_
  refine kRegion rfl ?_
  refine lE rfl ?_
  refine eBoxA rfl fun n1 => ?_
  refine lE rfl ?_
  refine eAlloc Z23 fun n2 => ?_
  refine lNil ?_
  refine kThen ?_
  refine kSeq ?_
  refine kRegion rfl ?_
  refine lV (yFieldAddr rfl F58_4) rfl rfl ?_
  refine lV (yLoadA (vs := [_, _]) rfl A23 (cOwn 1 rfl rfl)) rfl rfl ?_
  refine lE rfl ?_
  refine eStoreL 0 rfl rfl rfl rfl K23 rfl (rfl) ?_
  refine lNil ?_
  refine kThen ?_
  refine kRet ?_
  refine fRet rfl (.cA (us := [_, _]) rfl A23 (cOwn 0 rfl rfl) .n) (endRet ?_)
  rfl
def imgF (d : Bool) : FuncId := if d then 109 else 107
def saidF (d : Bool) : FuncId := if d then 110 else 108
theorem img_c : ∀ d, callT Try.prog (imgF d) = true
  | false => C107
  | true => C109
theorem said_c : ∀ d, callT Try.prog (saidF d) = true
  | false => C108
  | true => C110
theorem img_any : ∀ (d : Bool) (s : StarV) (w : World), Calls Try.prog (imgF d) [.agg (rowS s).toArray].toArray w (Ret w (.agg (rowE (imgD d s)).toArray))
  | false, s, w => wx_any s w
  | true, s, w => wy_any s w
theorem said_any : ∀ (d : Bool) (s : StarV) (w : World), Calls Try.prog (saidF d) [.agg (rowS s).toArray].toArray w (Ret w (.agg (rowE (saidD d s)).toArray))
  | false, s, w => we_any s w
  | true, s, w => wn_any s w
/-- A plate along a direction. -/
abbrev wayC (pb : Nat) (d : Bool) : List Value := [.pointer (some ⟨pb, 0, none⟩), .func (.func (imgF d)) [].toArray [].toArray, .func (.func (saidF d)) [].toArray [].toArray]
set_option maxRecDepth 100000 in
theorem ways_any (pb : Nat) (w : World) : Calls Try.prog 69 [.pointer (some ⟨pb, 0, none⟩)].toArray w (Ret w (.agg (wayC pb false ++ wayC pb true).toArray)) := by
  refine fEnter Try.func69 rfl Try.ntmps69 rfl ?_
  refine kSeq ?_
  refine kRegion rfl ?_
  refine lE rfl ?_
  refine eAlloc Z104 fun n2 => ?_
  refine lNil ?_
  refine kThen ?_
  refine kSeq ?_
  refine kRegion rfl ?_
  refine lV (yMove rfl) rfl rfl ?_
  refine lV (yBuild (.c rfl (.c rfl (.c rfl .n))) (fun w => B103_0_1_2 w)) rfl rfl ?_
  refine lV (yMove rfl) rfl rfl ?_
  refine lV (yBuild (.c rfl (.c rfl (.c rfl .n))) (fun w => B103_0_1_2 w)) rfl rfl ?_
  refine lV (yBuild (.c rfl (.c rfl .n)) (fun w => B104_0_1 w)) rfl rfl ?_
  refine lE rfl ?_
  refine eStoreL 0 rfl rfl rfl rfl K104 rfl (rfl) ?_
  refine lNil ?_
  refine kThen ?_
  refine kRet ?_
  refine fRet rfl (.cA (us := [_, _, _, _, _, _]) rfl A104 (cOwn 0 rfl rfl) .n) (endRet ?_)
  rfl
def longP (sc : Int) (x : Int × Int) : Int × Int := (sc * x.1 / 1000, sc * x.2 / 1000)
theorem mul_bd {a b : Int} (ha : 0 ≤ a ∧ a ≤ 1000) (hb : 0 ≤ b ∧ b ≤ 32768) : 0 ≤ a * b ∧ a * b ≤ 32768000 := by
  have h1 := Int.mul_nonneg ha.1 hb.1
  have h2 : a * b ≤ 1000 * 32768 := Int.mul_le_mul ha.2 hb.2 hb.1 (by omega)
  omega
theorem img_ok {d : Bool} {s : StarV} (h : starOk s) : spanOk 0 32768 (imgD d s) := by cases d; (· exact h.1); exact h.2.1
theorem said_ok {d : Bool} {s : StarV} (h : starOk s) (hk : s.k = true) : spanOk (-1048576) 1048576 (saidD d s) := by cases d; (· exact (h.2.2 hk).1); exact (h.2.2 hk).2

set_option maxRecDepth 100000 in
theorem long_any (pb : Nat) (d : Bool) (sc : Int) (s : StarV) (w : World) (hsc : 0 ≤ sc ∧ sc ≤ 1000) (hs : spanOk 0 32768 (imgD d s)) : Calls Try.prog 111 [.agg (wayC pb d).toArray, i64 sc, .agg (rowS s).toArray].toArray w (Ret w (.agg (rowE (longP sc (imgD d s))).toArray)) := by
  have h1 := mul_bd hsc (b := (imgD d s).1) (by unfold spanOk at hs; omega)
  have h2 := mul_bd hsc (b := (imgD d s).2) (by unfold spanOk at hs; omega)
  refine fEnter Try.func111 rfl Try.ntmps111 rfl ?_
  refine kSeq ?_
  refine kRegion rfl ?_
  refine lE rfl ?_
  refine eBoxA rfl fun n3 => ?_
  refine lE rfl ?_
  refine eBoxA rfl fun n5 => ?_
  refine lE rfl ?_
  refine eAlloc Z23 fun n6 => ?_
  refine lNil ?_
  refine kThen ?_
  refine kSeq ?_
  refine kRegion rfl ?_
  refine lV (yFieldAddr rfl F103_1) rfl rfl ?_
  refine lV (yLoad1 rfl O101 (cOwn 2 rfl rfl)) rfl rfl ?_
  refine lV (yLoadA (vs := [_, _, _, _, _, _, _, _, _]) rfl A58 (cOwn 1 rfl rfl)) rfl rfl ?_
  refine lV (yCall rfl (.c rfl .n) (img_c d) (fun w hw => img_any d s w)) rfl rfl ?_
  refine lE rfl ?_
  refine eAlloc Z23 fun n7 => ?_
  refine lE rfl ?_
  refine eStoreL 0 rfl rfl rfl rfl K23 rfl (rfl) ?_
  refine lNil ?_
  refine kThen ?_
  refine kSeq ?_
  refine kRegion rfl ?_
  refine lV (yMove rfl) rfl rfl ?_
  refine lV (yFieldAddr rfl F23_0) rfl rfl ?_
  refine lV (yLoad1 rfl O3 (cOwn 0 rfl rfl)) rfl rfl ?_
  refine lV (yMul rfl rfl (by omega)) rfl rfl ?_
  refine lV (yQuo rfl rfl (by omega) (by omega) (by omega)) rfl rfl ?_
  refine lV (yMove rfl) rfl rfl ?_
  refine lV (yFieldAddr rfl F23_1) rfl rfl ?_
  refine lV (yLoad1 rfl O3 (cOwn 0 rfl rfl)) rfl rfl ?_
  refine lV (yMul rfl rfl (by omega)) rfl rfl ?_
  refine lV (yQuo rfl rfl (by omega) (by omega) (by omega)) rfl rfl ?_
  refine lV (yBuild (.c rfl (.c rfl .n)) (fun w => B23_0_1 w)) rfl rfl ?_
  refine lE rfl ?_
  refine eStoreL 1 rfl rfl rfl rfl K23 rfl (rfl) ?_
  refine lNil ?_
  refine kThen ?_
  refine kRet ?_
  refine fRet rfl (.cA (us := [_, _]) rfl A23 (cOwn 1 rfl rfl) .n) (endRet ?_)
  rfl
end Go.Proofs.Ytlcdohhhhlhpmaa
namespace Go.Proofs.Ytlcdohhhhlhpmaa
open ZW

abbrev far : Int := 1099511627776
/-- Where the corner can be, by one star more. -/
def cornS (d : Bool) (sc : Int) (c : Int × Int) (s : StarV) : Int × Int := (max c.1 ((saidD d s).1 - (longP sc (imgD d s)).2), min c.2 ((saidD d s).2 - (longP sc (imgD d s)).1))
def cornT (p : Plt) (d : Bool) (sc : Int) (set n : Nat) : Int × Int := (List.range n).foldl (fun c i => if set.testBit i = true then cornS d sc c (p.st.getD i star0) else c) (-1099511627776, 1099511627776)
def cornP (p : Plt) (d : Bool) (sc : Int) (set : Nat) : Int × Int := cornT p d sc set p.st.length
theorem cornT_succ (p : Plt) (d : Bool) (sc : Int) (set n : Nat) : cornT p d sc set (n + 1) = if set.testBit n = true then cornS d sc (cornT p d sc set n) (p.st.getD n star0) else cornT p d sc set n := range_foldl_succ _ _ _
/-- A plate that is looked at. -/
abbrev lookC (y : Option Addr × Nat) (p : Plt) (mb : Nat) : List Value := [i64 p.sc.1, i64 p.sc.2, .slice y.1 p.st.length y.2, .map (some mb)]
/-- Only stars that are known. -/
def setOk (p : Plt) (set : Nat) : Prop := ∀ i, set.testBit i = true → i < p.st.length ∧ (p.st.getD i star0).k = true
theorem bit0_iff (s i : Nat) : (((s / 2 ^ i &&& 1 : Nat) : Int) = 0) ↔ s.testBit i = false := by
  rw [Nat.testBit_eq_decide_div_mod_eq, decide_eq_false_iff_not, Nat.and_one_is_mod]
  omega
theorem setOk_lt {p : Plt} {set : Nat} (h : setOk p set) (hn : p.st.length ≤ 10) : set < 1024 := by
  refine Nat.lt_pow_two_of_testBit (n := 10) set fun i hi => ?_
  cases hb : set.testBit i with
  | false => rfl
  | true => have := (h i hb).1; omega

set_option maxRecDepth 100000 in
set_option maxHeartbeats 4000000 in
theorem corner_any (pb mb : Nat) (y : Option Addr × Nat) (p : Plt) (d : Bool) (sc : Int) (set : Nat) (w : World) (hb : w.heap[pb]? = some (blk (lookC y p mb) 90)) (hst : InP w y p) (hp : PltOk p) (hsc : 0 ≤ sc ∧ sc ≤ 1000) (hset : setOk p set) :
    Calls Try.prog 124 [.agg (wayC pb d).toArray, i64 sc, .int .u64 (set : Nat)].toArray w (Ret w (.tuple [.agg (rowE (cornP p d sc set)).toArray, .bool (decide ((cornP p d sc set).1 ≤ (cornP p d sc set).2))].toArray)) := by
  have hn := hp.n
  have hlt := setOk_lt hset hn
  have hbit : ∀ i, ¬ (((set / 2 ^ i &&& 1 : Nat) : Int) = 0) → set.testBit i = true := fun i h => by
    cases hb : set.testBit i with
    | true => rfl
    | false => exact absurd ((bit0_iff set i).2 hb) h
  have hbd : ∀ i, ¬ (((set / 2 ^ i &&& 1 : Nat) : Int) = 0) → i < p.st.length → (-1048576 ≤ (saidD d (p.st.getD i star0)).1 ∧ (saidD d (p.st.getD i star0)).1 ≤ 1048576 ∧ -1048576 ≤ (saidD d (p.st.getD i star0)).2 ∧ (saidD d (p.st.getD i star0)).2 ≤ 1048576) ∧ (0 ≤ (longP sc (imgD d (p.st.getD i star0))).1 ∧ (longP sc (imgD d (p.st.getD i star0))).1 ≤ 32768) ∧ 0 ≤ (longP sc (imgD d (p.st.getD i star0))).2 ∧ (longP sc (imgD d (p.st.getD i star0))).2 ≤ 32768 := fun i h hl => by
    have h1 := hp.s _ (getD_mem hl star0)
    have h2 := said_ok (d := d) h1 (hset i (hbit i h)).2
    have h3 := img_ok (d := d) h1
    have h4 := mul_bd hsc (b := (imgD d (p.st.getD i star0)).1) (by unfold spanOk at h3; omega)
    have h5 := mul_bd hsc (b := (imgD d (p.st.getD i star0)).2) (by unfold spanOk at h3; omega)
    unfold spanOk at h2
    unfold longP
    omega
  refine fEnter Try.func124 rfl Try.ntmps124 rfl ?_
  refine kSeq ?_
  refine kRegion rfl ?_
  refine lE rfl ?_
  refine eBoxA rfl fun n3 => ?_
  refine lE rfl ?_
  refine eAlloc Z23 fun n6 => ?_
  refine lV (yAssign rfl) rfl rfl ?_
  refine lNil ?_
  refine kThen ?_
  refine kScope ?_
  refine kSeq ?_
  refine kRegion rfl ?_
  refine lV (yBuild (.c rfl (.c rfl .n)) (fun w => B23_0_1 w)) rfl rfl ?_
  refine lE rfl ?_
  refine eAlloc Z23 fun n8 => ?_
  refine lE rfl ?_
  refine eStoreL 0 rfl rfl rfl rfl K23 rfl (rfl) ?_
  refine lNil ?_
  refine kThen ?_
  refine kSeq ?_
  refine kLabel ?_
  refine kThen ?_
  refine kSeq ?_
  refine kSeq ?_
  refine kRegion rfl ?_
  refine lV (yFieldAddr rfl F103_0) rfl rfl ?_
  refine lV (yLoad1 rfl O91 (cOwn 2 rfl rfl)) rfl rfl ?_
  refine lV (yNilCheckP rfl) rfl rfl ?_
  refine lV (yFieldAddr rfl F90_0) rfl rfl ?_
  refine lV (yFieldAddr rfl F26_1) rfl rfl ?_
  refine lV (yLoad1 rfl O24 (cOldB (hb) rfl)) rfl rfl ?_
  refine lV (yLen rfl S24) rfl rfl ?_
  refine lV (yMove rfl) rfl rfl ?_
  refine lNil ?_
  refine kThen ?_
  refine kBlock ?_
  refine kLoopX (ι := Nat × Int × Int) (fun x => x.1 ≤ p.st.length ∧ x.2 = cornT p d sc set x.1) (fun x => [(21, i64 (x.1 : Nat))]) [(0, _), (1, _), (2, _), (3, _), (6, _), (7, _), (13, _), (8, _), (14, _), (15, _), (16, _), (17, _), (18, _), (19, _), (20, _)] (fun x => []) (fun x => [(n8, blk (rowE x.2) 23)]) [(n6, _), (n3, _)] (fun x => p.st.length - x.1) (0, (-1099511627776, 1099511627776)) (⟨Nat.zero_le _, rfl⟩) rfl (.c rfl .n) (.c rfl (.c rfl (.c rfl (.c rfl (.c rfl (.c rfl (.c rfl (.c rfl (.c rfl (.c rfl (.c rfl (.c rfl (.c rfl (.c rfl (.c rfl .n))))))))))))))) (.c 1 rfl (.c 1 rfl (.c 0 rfl .n))) ?_
  rintro ⟨i, c⟩ ⟨hi, hc⟩
  dsimp only at hi hc ⊢
  refine kSeq ?_
  refine kRegion rfl ?_
  refine lV (yLss rfl rfl) rfl rfl ?_
  refine lNil ?_
  refine kThen ?_
  refine kSeq ?_
  refine split (t := 22) rfl (fun h22 => ?_) (fun h22 => ?_)
  · refine kIfT rfl ?_
    refine kSkip ?_
    refine kThen ?_
    refine kSeq ?_
    refine kBlock ?_
    refine kSeq ?_
    refine kRegion rfl ?_
    refine lV (yMove rfl) rfl rfl ?_
    refine lV (yIndexS  rfl rfl S24 (hst.r) ((by omega))) rfl rfl ?_
    refine lV (yLoadA (vs := [_, _, _, _, _, _, _, _, _]) rfl A58 (cSl0 (hst.r) ((by omega)) rfl)) rfl rfl ?_
    refine lE rfl ?_
    refine eAlloc Z58 fun n10 => ?_
    refine lV (yAssign rfl) rfl rfl ?_
    refine lE rfl ?_
    refine eStoreL 0 rfl rfl rfl rfl K58 rfl (rfl) ?_
    refine lNil ?_
    refine kThen ?_
    refine kSeq ?_
    refine kSeq ?_
    refine kRegion rfl ?_
    refine lV (yMove rfl) rfl rfl ?_
    refine lV (yMove rfl) rfl rfl ?_
    refine lV (yShr rfl rfl rfl (by omega)) rfl rfl ?_
    refine lV (yAnd (b := 1) rfl rfl rfl (by have := Nat.div_le_self set (2 ^ i); omega) (by have := Nat.div_le_self set (2 ^ i); omega)) rfl rfl ?_
    refine lV (yEql rfl rfl) rfl rfl ?_
    refine split (t := 30) rfl (fun h30 => ?_) (fun h30 => ?_)
    · refine lNil ?_
      refine kThen ?_
      refine kIfT rfl ?_
      refine kExit ?_
      refine kThenX ?_
      refine kInX ?_
      refine kThen ?_
      refine kRegion rfl ?_
      refine lV (yAdd rfl rfl (by omega)) rfl rfl ?_
      refine lV (yMove rfl) rfl rfl ?_
      refine lNil ?_
      exact kRoundX (i + 1, c) (⟨by dsimp only; omega, by dsimp only; rw [cornT_succ, if_neg (by rw [(bit0_iff set i).1 h30]; decide)]; exact hc⟩) (by dsimp only; omega) rfl (.c rfl .n) (.c rfl (.c rfl (.c rfl (.c rfl (.c rfl (.c rfl (.c rfl (.c rfl (.c rfl (.c rfl (.c rfl (.c rfl (.c rfl (.c rfl (.c rfl .n))))))))))))))) (.c 1 rfl (.c 1 rfl (.c 1 rfl .n)))
    · refine lNil ?_
      refine kThen ?_
      refine kIfF rfl ?_
      refine kSkip ?_
      refine kThen ?_
      refine kSeq ?_
      refine kDrawE [(0, none), (2, none), (3, none), (5, none), (6, none), (7, none)] [] [0, 1, 2, 3, 4, 5, 6, 7] 4 hMix (by kernel_rfl) ?_
      refine .run rfl (yLoadA (vs := [_, _, _]) rfl A103 (cOwn 2 rfl rfl)) rfl rfl ?_
      refine .run rfl (yMove rfl) rfl rfl ?_
      refine .run rfl (yLoadA (vs := [_, _, _, _, _, _, _, _, _]) rfl A58 (cOwn 0 rfl rfl)) rfl rfl ?_
      refine .run rfl (yCall rfl (.c rfl (.c rfl (.c rfl .n))) C111 (fun w hw => long_any pb d sc _ w hsc (img_ok (hp.s _ (getD_mem (i := i) (by omega) star0))))) rfl rfl ?_
      refine .run rfl (yFieldAddr rfl F103_2) rfl rfl ?_
      refine .run rfl (yLoad1 rfl O101 (cOwn 2 rfl rfl)) rfl rfl ?_
      refine .run rfl (yLoadA (vs := [_, _, _, _, _, _, _, _, _]) rfl A58 (cOwn 0 rfl rfl)) rfl rfl ?_
      refine .run rfl (yCall rfl (.c rfl .n) (said_c d) (fun w hw => said_any d _ w)) rfl rfl ?_
      refine .done ?_
      refine effStep 8 [9] (by kernel_rfl) closedSt (hLeft [0, 2, 3, 5, 6, 7] (by kernel_rfl) (.c (fun _ _ hs => hs.ef) (.c (fun _ _ hs => hs.ef) (.c (fun _ _ hs => hs.ef) (.c (fun _ _ hs => hs.ef) (.c (fun _ _ hs => hs.ef) (.c (fun _ _ hs => hs.ef) .n))))))) ?_
      refine (.c ?_ (.c ?_ .n))
      · refine effOne rfl (gNone rfl (fAlloc Z23)) ?_
        refine effStep 9 [] (by kernel_rfl) (closedEx fun n11 => closedSt) (hLeft [0, 2, 3, 5, 6, 7] (by kernel_rfl) (.c (fun _ _ ⟨n11, hs⟩ => hs.ef.sub (.c 1 rfl (.c 1 rfl (.c 1 rfl (.c 1 rfl .n))))) (.c (fun _ _ ⟨n11, hs⟩ => hs.ef.sub (.c 1 rfl (.c 1 rfl (.c 1 rfl (.c 1 rfl .n))))) (.c (fun _ _ ⟨n11, hs⟩ => hs.ef.sub (.c 1 rfl (.c 1 rfl (.c 1 rfl (.c 1 rfl .n))))) (.c (fun _ _ ⟨n11, hs⟩ => hs.ef.sub (.c 1 rfl (.c 1 rfl (.c 1 rfl (.c 1 rfl .n))))) (.c (fun _ _ ⟨n11, hs⟩ => hs.ef.sub (.c 1 rfl (.c 1 rfl (.c 1 rfl (.c 1 rfl .n))))) (.c (fun _ _ ⟨n11, hs⟩ => hs.ef.sub (.c 1 rfl (.c 1 rfl (.c 1 rfl (.c 1 rfl .n))))) .n))))))) ?_
        refine .c ?_ .n
        refine effOne rfl (opEx fun n11 => (gNone rfl (fAlloc Z23))) ?_
        refine effStep 10 [] (by kernel_rfl) (closedEx fun n11 => (closedEx fun n12 => closedSt)) (hLeft [0, 2, 3, 5, 6, 7] (by kernel_rfl) (.c (fun _ _ ⟨n11, ⟨n12, hs⟩⟩ => hs.ef.sub (.c 2 rfl (.c 2 rfl (.c 2 rfl (.c 2 rfl .n))))) (.c (fun _ _ ⟨n11, ⟨n12, hs⟩⟩ => hs.ef.sub (.c 2 rfl (.c 2 rfl (.c 2 rfl (.c 2 rfl .n))))) (.c (fun _ _ ⟨n11, ⟨n12, hs⟩⟩ => hs.ef.sub (.c 2 rfl (.c 2 rfl (.c 2 rfl (.c 2 rfl .n))))) (.c (fun _ _ ⟨n11, ⟨n12, hs⟩⟩ => hs.ef.sub (.c 2 rfl (.c 2 rfl (.c 2 rfl (.c 2 rfl .n))))) (.c (fun _ _ ⟨n11, ⟨n12, hs⟩⟩ => hs.ef.sub (.c 2 rfl (.c 2 rfl (.c 2 rfl (.c 2 rfl .n))))) (.c (fun _ _ ⟨n11, ⟨n12, hs⟩⟩ => hs.ef.sub (.c 2 rfl (.c 2 rfl (.c 2 rfl (.c 2 rfl .n))))) .n))))))) ?_
        refine .c ?_ .n
        refine effOne rfl (opEx fun n11 => (opEx fun n12 => (gNone rfl (fStoreL 1 rfl rfl rfl rfl K23 rfl (rfl))))) ?_
        refine effStep 11 [] (by kernel_rfl) (closedEx fun n11 => (closedEx fun n12 => closedSt)) (hLeft [] (by kernel_rfl) .n) ?_
        refine .c ?_ .n
        refine effOne rfl (opEx fun n11 => (opEx fun n12 => (gNone rfl (fStoreL 0 rfl rfl rfl rfl K23 rfl (rfl))))) ?_
        refine effDone (closedEx fun n11 => (closedEx fun n12 => closedSt)) (hLeft [] (by kernel_rfl) .n) (by kernel_rfl) ?_
        refine trEx fun n11 => ?_
        refine trEx fun n12 => ?_
        refine kThen ?_
        refine kRegion rfl ?_
        refine lV (yFieldAddr rfl F23_0) rfl rfl ?_
        refine lV (yLoad1 rfl O3 (cOwn 5 rfl rfl)) rfl rfl ?_
        refine lV (yFieldAddr rfl F23_0) rfl rfl ?_
        refine lV (yLoad1 rfl O3 (cOwn 0 rfl rfl)) rfl rfl ?_
        refine lV (yFieldAddr rfl F23_1) rfl rfl ?_
        refine lV (yLoad1 rfl O3 (cOwn 1 rfl rfl)) rfl rfl ?_
        refine lV (ySub rfl rfl (by have := hbd i h30 (by omega); omega)) rfl rfl ?_
        refine lV (yMax rfl rfl) rfl rfl ?_
        refine lV (yFieldAddr rfl F23_1) rfl rfl ?_
        refine lV (yLoad1 rfl O3 (cOwn 5 rfl rfl)) rfl rfl ?_
        refine lV (yFieldAddr rfl F23_1) rfl rfl ?_
        refine lV (yLoad1 rfl O3 (cOwn 0 rfl rfl)) rfl rfl ?_
        refine lV (yFieldAddr rfl F23_0) rfl rfl ?_
        refine lV (yLoad1 rfl O3 (cOwn 1 rfl rfl)) rfl rfl ?_
        refine lV (ySub rfl rfl (by have := hbd i h30 (by omega); omega)) rfl rfl ?_
        refine lV (yMin rfl rfl) rfl rfl ?_
        refine lV (yBuild (.c rfl (.c rfl .n)) (fun w => B23_0_1 w)) rfl rfl ?_
        refine lE rfl ?_
        refine eStoreL 5 rfl rfl rfl rfl K23 rfl (rfl) ?_
        refine lNil ?_
        refine kInN ?_
        refine kThen ?_
        refine kRegion rfl ?_
        refine lV (yAdd rfl rfl (by omega)) rfl rfl ?_
        refine lV (yMove rfl) rfl rfl ?_
        refine lNil ?_
        exact kRoundX (i + 1, cornS d sc c (p.st.getD i star0)) (⟨by dsimp only; omega, by dsimp only; rw [cornT_succ, if_pos (hbit i h30), hc]⟩) (by dsimp only; omega) rfl (.c rfl .n) (.c rfl (.c rfl (.c rfl (.c rfl (.c rfl (.c rfl (.c rfl (.c rfl (.c rfl (.c rfl (.c rfl (.c rfl (.c rfl (.c rfl (.c rfl .n))))))))))))))) (.c 3 rfl (.c 3 rfl (.c 3 rfl .n)))
      · refine effOne rfl (gNone rfl (fAlloc Z23)) ?_
        refine effStep 8 [] (by kernel_rfl) (closedEx fun n12 => closedSt) (hLeft [0, 2, 3, 5, 6, 7] (by kernel_rfl) (.c (fun _ _ ⟨n12, hs⟩ => hs.ef.sub (.c 1 rfl (.c 1 rfl (.c 1 rfl (.c 1 rfl .n))))) (.c (fun _ _ ⟨n12, hs⟩ => hs.ef.sub (.c 1 rfl (.c 1 rfl (.c 1 rfl (.c 1 rfl .n))))) (.c (fun _ _ ⟨n12, hs⟩ => hs.ef.sub (.c 1 rfl (.c 1 rfl (.c 1 rfl (.c 1 rfl .n))))) (.c (fun _ _ ⟨n12, hs⟩ => hs.ef.sub (.c 1 rfl (.c 1 rfl (.c 1 rfl (.c 1 rfl .n))))) (.c (fun _ _ ⟨n12, hs⟩ => hs.ef.sub (.c 1 rfl (.c 1 rfl (.c 1 rfl (.c 1 rfl .n))))) (.c (fun _ _ ⟨n12, hs⟩ => hs.ef.sub (.c 1 rfl (.c 1 rfl (.c 1 rfl (.c 1 rfl .n))))) .n))))))) ?_
        refine .c ?_ .n
        refine effOne rfl (opEx fun n12 => (gNone rfl (fAlloc Z23))) ?_
        refine effStep 10 [] (by kernel_rfl) (closedEx fun n12 => (closedEx fun n11 => closedSt)) (hLeft [0, 2, 3, 5, 6, 7] (by kernel_rfl) (.c (fun _ _ ⟨n12, ⟨n11, hs⟩⟩ => hs.ef.sub (.c 2 rfl (.c 2 rfl (.c 2 rfl (.c 2 rfl .n))))) (.c (fun _ _ ⟨n12, ⟨n11, hs⟩⟩ => hs.ef.sub (.c 2 rfl (.c 2 rfl (.c 2 rfl (.c 2 rfl .n))))) (.c (fun _ _ ⟨n12, ⟨n11, hs⟩⟩ => hs.ef.sub (.c 2 rfl (.c 2 rfl (.c 2 rfl (.c 2 rfl .n))))) (.c (fun _ _ ⟨n12, ⟨n11, hs⟩⟩ => hs.ef.sub (.c 2 rfl (.c 2 rfl (.c 2 rfl (.c 2 rfl .n))))) (.c (fun _ _ ⟨n12, ⟨n11, hs⟩⟩ => hs.ef.sub (.c 2 rfl (.c 2 rfl (.c 2 rfl (.c 2 rfl .n))))) (.c (fun _ _ ⟨n12, ⟨n11, hs⟩⟩ => hs.ef.sub (.c 2 rfl (.c 2 rfl (.c 2 rfl (.c 2 rfl .n))))) .n))))))) ?_
        refine .c ?_ .n
        refine effOne rfl (opEx fun n12 => (opEx fun n11 => (gNone rfl (fStoreL 0 rfl rfl rfl rfl K23 rfl (rfl))))) ?_
        refine effStep 11 [] (by kernel_rfl) (closedEx fun n12 => (closedEx fun n11 => closedSt)) (hLeft [] (by kernel_rfl) .n) ?_
        refine .c ?_ .n
        refine effOne rfl (opEx fun n12 => (opEx fun n11 => (gNone rfl (fStoreL 1 rfl rfl rfl rfl K23 rfl (rfl))))) ?_
        refine effDone (closedEx fun n12 => (closedEx fun n11 => closedSt)) (hLeft [] (by kernel_rfl) .n) (by kernel_rfl) ?_
        refine trEx fun n12 => ?_
        refine trEx fun n11 => ?_
        refine kThen ?_
        refine kRegion rfl ?_
        refine lV (yFieldAddr rfl F23_0) rfl rfl ?_
        refine lV (yLoad1 rfl O3 (cOwn 5 rfl rfl)) rfl rfl ?_
        refine lV (yFieldAddr rfl F23_0) rfl rfl ?_
        refine lV (yLoad1 rfl O3 (cOwn 1 rfl rfl)) rfl rfl ?_
        refine lV (yFieldAddr rfl F23_1) rfl rfl ?_
        refine lV (yLoad1 rfl O3 (cOwn 0 rfl rfl)) rfl rfl ?_
        refine lV (ySub rfl rfl (by have := hbd i h30 (by omega); omega)) rfl rfl ?_
        refine lV (yMax rfl rfl) rfl rfl ?_
        refine lV (yFieldAddr rfl F23_1) rfl rfl ?_
        refine lV (yLoad1 rfl O3 (cOwn 5 rfl rfl)) rfl rfl ?_
        refine lV (yFieldAddr rfl F23_1) rfl rfl ?_
        refine lV (yLoad1 rfl O3 (cOwn 1 rfl rfl)) rfl rfl ?_
        refine lV (yFieldAddr rfl F23_0) rfl rfl ?_
        refine lV (yLoad1 rfl O3 (cOwn 0 rfl rfl)) rfl rfl ?_
        refine lV (ySub rfl rfl (by have := hbd i h30 (by omega); omega)) rfl rfl ?_
        refine lV (yMin rfl rfl) rfl rfl ?_
        refine lV (yBuild (.c rfl (.c rfl .n)) (fun w => B23_0_1 w)) rfl rfl ?_
        refine lE rfl ?_
        refine eStoreL 5 rfl rfl rfl rfl K23 rfl (rfl) ?_
        refine lNil ?_
        refine kInN ?_
        refine kThen ?_
        refine kRegion rfl ?_
        refine lV (yAdd rfl rfl (by omega)) rfl rfl ?_
        refine lV (yMove rfl) rfl rfl ?_
        refine lNil ?_
        exact kRoundX (i + 1, cornS d sc c (p.st.getD i star0)) (⟨by dsimp only; omega, by dsimp only; rw [cornT_succ, if_pos (hbit i h30), hc]⟩) (by dsimp only; omega) rfl (.c rfl .n) (.c rfl (.c rfl (.c rfl (.c rfl (.c rfl (.c rfl (.c rfl (.c rfl (.c rfl (.c rfl (.c rfl (.c rfl (.c rfl (.c rfl (.c rfl .n))))))))))))))) (.c 3 rfl (.c 3 rfl (.c 3 rfl .n)))
  · refine kIfF rfl ?_
    refine kExit ?_
    refine kThenX ?_
    refine kThenX ?_
    refine kInX ?_
    refine kThen ?_
    refine kSeq ?_
    refine kDrawE [(0, none), (2, some [1, 2]), (4, some [1, 2])] [] [0, 1, 2, 3, 4, 5, 7] 1 hMix (by kernel_rfl) ?_
    refine .run rfl (yLoadA (vs := [_, _]) rfl A23 (cOwn 2 rfl rfl)) rfl rfl ?_
    refine .run rfl (yFieldAddr rfl F23_0) rfl rfl ?_
    refine .run rfl (yLoad1 rfl O3 (cOwn 1 rfl rfl)) rfl rfl ?_
    refine .run rfl (yFieldAddr rfl F23_1) rfl rfl ?_
    refine .run rfl (yLoad1 rfl O3 (cOwn 1 rfl rfl)) rfl rfl ?_
    refine .run rfl (yLeq rfl rfl) rfl rfl ?_
    refine .run rfl (yAssign rfl) rfl rfl ?_
    refine .done ?_
    refine effStep 6 [] (by kernel_rfl) closedSt (hLeft [0, 2, 4] (by kernel_rfl) (.c (fun _ _ hs => hs.ef) (.c (fun _ _ hs => hs.ef.sub (.c 1 rfl (.c 1 rfl .n))) (.c (fun _ _ hs => hs.ef.sub (.c 1 rfl (.c 1 rfl .n))) .n)))) ?_
    refine .c ?_ .n
    refine effOne rfl (gNone rfl (fStoreL 0 rfl rfl rfl rfl K23 rfl (rfl))) ?_
    refine effDone closedSt (hLeft [2, 4] (by kernel_rfl) (.c (fun _ _ hs => hs.ef.sub (.c 1 rfl (.c 1 rfl .n))) (.c (fun _ _ hs => hs.ef.sub (.c 1 rfl (.c 1 rfl .n))) .n))) (by kernel_rfl) ?_
    refine kThen ?_
    refine kRet ?_
    refine kScR ?_
    refine fRet rfl (.cA (us := [_, _]) rfl A23 (cOwn 0 rfl rfl) (.t rfl .n)) (endRet ?_)
    obtain rfl : i = p.st.length := by omega
    rw [show cornP p d sc set = c from hc.symm]
    rfl

/-! ### The stars that are known -/
def knownT (p : Plt) (n : Nat) : Nat := (List.range n).foldl (fun s i => if (p.st.getD i star0).k = true then s ||| 1 * 2 ^ i else s) 0
def knownP (p : Plt) : Nat := knownT p p.st.length
theorem knownT_succ (p : Plt) (n : Nat) : knownT p (n + 1) = if (p.st.getD n star0).k = true then knownT p n ||| 1 * 2 ^ n else knownT p n := range_foldl_succ _ _ _
theorem knownT_test (p : Plt) (i : Nat) : ∀ n, (knownT p n).testBit i = (decide (i < n) && (p.st.getD i star0).k)
  | 0 => by simp [knownT]
  | n + 1 => by
    have ih := knownT_test p i n
    rw [knownT_succ]
    split
    · rename_i h
      rw [Nat.testBit_or, ih, Nat.one_mul, Nat.testBit_two_pow]
      by_cases h1 : i = n
      · subst h1; rw [h]; simp
      · have h2 : ¬ n = i := fun e => h1 e.symm
        by_cases h3 : i < n
        · have : i < n + 1 := by omega
          simp [h2, h3, this]
        · have : ¬ i < n + 1 := by omega
          simp [h2, h3, this]
    · rename_i h
      rw [ih]
      by_cases h1 : i = n
      · subst h1
        have h' : (p.st.getD i star0).k = false := by simpa only [Bool.not_eq_true] using h
        rw [h']; simp
      · by_cases h3 : i < n
        · have : i < n + 1 := by omega
          simp [h3, this]
        · have : ¬ i < n + 1 := by omega
          simp [h3, this]
theorem knownP_test (p : Plt) (i : Nat) : (knownP p).testBit i = (decide (i < p.st.length) && (p.st.getD i star0).k) := knownT_test p i _
theorem known_ok (p : Plt) : setOk p (knownP p) := fun i h => by
  rw [knownP_test, Bool.and_eq_true, decide_eq_true_eq] at h; exact h
theorem knownT_lt (p : Plt) (n : Nat) : knownT p n < 2 ^ n := Nat.lt_pow_two_of_testBit _ fun i hi => by
  rw [knownT_test, decide_eq_false (by omega)]; rfl

set_option maxRecDepth 100000 in
theorem known_any (pb mb : Nat) (y : Option Addr × Nat) (p : Plt) (w : World) (hb : w.heap[pb]? = some (blk (lookC y p mb) 90)) (hst : InP w y p) (hn : p.st.length ≤ 10) :
    Calls Try.prog 81 [.pointer (some ⟨pb, 0, none⟩)].toArray w (Ret w (.int .u64 (knownP p : Nat))) := by
  refine fEnter Try.func81 rfl Try.ntmps81 rfl ?_
  refine kSeq ?_
  refine kRegion rfl ?_
  refine lV (yAssign rfl) rfl rfl ?_
  refine lNil ?_
  refine kThen ?_
  refine kSeq ?_
  refine kSeq ?_
  refine kRegion rfl ?_
  refine lV (yMove rfl) rfl rfl ?_
  refine lV (yNilCheckP rfl) rfl rfl ?_
  refine lV (yFieldAddr rfl F90_0) rfl rfl ?_
  refine lV (yFieldAddr rfl F26_1) rfl rfl ?_
  refine lV (yLoad1 rfl O24 (cOldB (hb) rfl)) rfl rfl ?_
  refine lV (yLen rfl S24) rfl rfl ?_
  refine lV (yMove rfl) rfl rfl ?_
  refine lNil ?_
  refine kThen ?_
  refine kBlock ?_
  refine kLoopX (ι := Nat × Nat) (fun x => x.1 ≤ p.st.length ∧ x.2 = knownT p x.1) (fun x => [(11, i64 (x.1 : Nat)), (2, .int .u64 (x.2 : Nat))]) [(0, _), (5, _), (6, _), (7, _), (8, _), (9, _), (10, _)] (fun x => []) (fun x => []) [] (fun x => p.st.length - x.1) (0, 0) (⟨Nat.zero_le _, rfl⟩) rfl (.c rfl (.c rfl .n)) (.c rfl (.c rfl (.c rfl (.c rfl (.c rfl (.c rfl (.c rfl .n))))))) .n ?_
  rintro ⟨i, s⟩ ⟨hi, hs⟩
  dsimp only at hi hs ⊢
  refine kSeq ?_
  refine kRegion rfl ?_
  refine lV (yLss rfl rfl) rfl rfl ?_
  refine lNil ?_
  refine kThen ?_
  refine kSeq ?_
  refine split (t := 12) rfl (fun h12 => ?_) (fun h12 => ?_)
  · refine kIfT rfl ?_
    refine kSkip ?_
    refine kThen ?_
    refine kSeq ?_
    refine kBlock ?_
    refine kSeq ?_
    have hlt := knownT_lt p i
    have hp2 : 2 ^ i ≤ 2 ^ 10 := Nat.pow_le_pow_right (by omega) (by omega)
    refine kRegion rfl ?_
    refine lV (yMove rfl) rfl rfl ?_
    refine lV (yIndexS  rfl rfl S24 (hst.r) ((by omega))) rfl rfl ?_
    refine lV (yLoadA (vs := [_, _, _, _, _, _, _, _, _]) rfl A58 (cSl0 (hst.r) ((by omega)) rfl)) rfl rfl ?_
    refine lE rfl ?_
    refine eAlloc Z58 fun n4 => ?_
    refine lV (yAssign rfl) rfl rfl ?_
    refine lE rfl ?_
    refine eStoreL 0 rfl rfl rfl rfl K58 rfl (rfl) ?_
    refine lNil ?_
    refine kThen ?_
    refine kSeq ?_
    refine kRegion rfl ?_
    refine lV (yFieldAddr rfl F58_2) rfl rfl ?_
    refine lV (yLoad1 rfl O4 (cOwn 0 rfl rfl)) rfl rfl ?_
    refine splitB (t := 17) rfl (fun h17 => ?_) (fun h17 => ?_)
    · refine lNil ?_
      refine kThen ?_
      refine kIfT rfl ?_
      refine kRegion rfl ?_
      refine lV (yMove rfl) rfl rfl ?_
      refine lV (yMove rfl) rfl rfl ?_
      refine lV (yShl (a := 1) rfl rfl rfl (by omega) (by omega)) rfl rfl ?_
      refine lV (yOr rfl rfl rfl (by omega) (by omega)) rfl rfl ?_
      refine lV (yAssign rfl) rfl rfl ?_
      refine lNil ?_
      refine kInN ?_
      refine kThen ?_
      refine kRegion rfl ?_
      refine lV (yAdd rfl rfl (by omega)) rfl rfl ?_
      refine lV (yMove rfl) rfl rfl ?_
      refine lNil ?_
      exact kRoundX (i + 1, s ||| 1 * 2 ^ i) (⟨by dsimp only; omega, by dsimp only; rw [knownT_succ, if_pos h17, hs]⟩) (by dsimp only; omega) rfl (.c rfl (.c rfl .n)) (.c rfl (.c rfl (.c rfl (.c rfl (.c rfl (.c rfl (.c rfl .n))))))) .n
    · refine lNil ?_
      refine kThen ?_
      refine kIfF rfl ?_
      refine kSkip ?_
      refine kInN ?_
      refine kThen ?_
      refine kRegion rfl ?_
      refine lV (yAdd rfl rfl (by omega)) rfl rfl ?_
      refine lV (yMove rfl) rfl rfl ?_
      refine lNil ?_
      exact kRoundX (i + 1, s) (⟨by dsimp only; omega, by dsimp only; rw [knownT_succ, if_neg (by rw [h17]; decide), hs]⟩) (by dsimp only; omega) rfl (.c rfl (.c rfl .n)) (.c rfl (.c rfl (.c rfl (.c rfl (.c rfl (.c rfl (.c rfl .n))))))) .n
  · refine kIfF rfl ?_
    refine kExit ?_
    refine kThenX ?_
    refine kThenX ?_
    refine kInX ?_
    refine kThen ?_
    refine kSeq ?_
    refine kRegion rfl ?_
    refine lV (yMove rfl) rfl rfl ?_
    refine lV (yAssign rfl) rfl rfl ?_
    refine lNil ?_
    refine kThen ?_
    refine kRet ?_
    refine fRet rfl (.t rfl .n) (endRet ?_)
    obtain rfl : i = p.st.length := by omega
    rw [show s = knownP p from hs]
    rfl
end Go.Proofs.Ytlcdohhhhlhpmaa
