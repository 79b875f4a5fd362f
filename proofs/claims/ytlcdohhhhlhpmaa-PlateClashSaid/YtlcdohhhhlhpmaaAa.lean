/-
  A plate, in plain words; walks: what is valid.
-/
import Derived.Test.YtlcdohhhhlhpmaaFacts
import Derived.Test.YtlcdohhhhlhpmaaEngW
namespace Go.Proofs.Ytlcdohhhhlhpmaa
open ZW

abbrev i64 (n : Int) : Value := .int .i64 n
theorem getD_mem {α : Type} {l : List α} {i : Nat} (h : i < l.length) (d : α) : l.getD i d ∈ l := by
  rw [← List.getElem_eq_getD (h := h)]; exact List.getElem_mem h
theorem range_foldl_succ {α : Type} (f : α → Nat → α) (x : α) (n : Nat) : (List.range (n + 1)).foldl f x = f ((List.range n).foldl f x) n := by
  rw [List.range_succ, List.foldl_append]; rfl
theorem notT {p : Prop} [Decidable p] (h : (!decide p) = true) : ¬ p := by simpa using h
theorem notF {p : Prop} [Decidable p] (h : (!decide p) = false) : p := by simpa using h
/-- A star. -/
structure StarV where
  x : Int × Int
  y : Int × Int
  k : Bool
  e : Int × Int
  n : Int × Int
abbrev star0 : StarV := ⟨(0, 0), (0, 0), false, (0, 0), (0, 0)⟩
abbrev rowE (x : Int × Int) : List Value := [i64 x.1, i64 x.2]
abbrev rowS (s : StarV) : List Value := [i64 s.x.1, i64 s.x.2, i64 s.y.1, i64 s.y.2, .bool s.k, i64 s.e.1, i64 s.e.2, i64 s.n.1, i64 s.n.2]
abbrev starC (l : List StarV) (i : Nat) : List Value := rowS (l.getD i star0)
/-- A plate, and where its stars lie. -/
structure Plt where
  sc : Int × Int
  st : List StarV
abbrev pltC (y : Option Addr × Nat) (p : Plt) : List Value := [i64 p.sc.1, i64 p.sc.2, .slice y.1 p.st.length y.2]
abbrev InP (w : World) (y : Option Addr × Nat) (p : Plt) : Prop := SlE w y.1 p.st.length 9 (starC p.st)

def spanOk (lo hi : Int) (s : Int × Int) : Prop := lo ≤ s.1 ∧ s.1 ≤ s.2 ∧ s.2 ≤ hi
instance (lo hi : Int) (s : Int × Int) : Decidable (spanOk lo hi s) := inferInstanceAs (Decidable (_ ∧ _))
def starOk (s : StarV) : Prop := spanOk 0 32768 s.x ∧ spanOk 0 32768 s.y ∧ (s.k = true → spanOk (-1048576) 1048576 s.e ∧ spanOk (-1048576) 1048576 s.n)
instance (s : StarV) : Decidable (starOk s) := inferInstanceAs (Decidable (_ ∧ _ ∧ (_ → _)))
structure PltOk (p : Plt) : Prop where
  c : spanOk 1 1000 p.sc
  n : p.st.length ≤ 10
  s : ∀ x ∈ p.st, starOk x
instance (p : Plt) : Decidable (PltOk p) := decidable_of_iff (spanOk 1 1000 p.sc ∧ p.st.length ≤ 10 ∧ ∀ x ∈ p.st, starOk x) ⟨fun h => ⟨h.1, h.2.1, h.2.2⟩, fun h => ⟨h.c, h.n, h.s⟩⟩

set_option maxRecDepth 100000 in
theorem nan_any (n : Int) (w : World) : Calls Try.prog 153 [i64 n].toArray w (Ret w (.bool false)) := by
  refine fEnter Try.func153 rfl Try.ntmps153 rfl ?_
  refine kSeq ?_
  refine kRegion rfl ?_
  refine lV (yAssign rfl) rfl rfl ?_
  refine lNil ?_
  refine kThen ?_
  refine kSeq ?_
  refine kRegion rfl ?_
  refine lV (yMove rfl) rfl rfl ?_
  refine lV (yMove rfl) rfl rfl ?_
  refine lV (yNeq rfl rfl) rfl rfl ?_
  refine lV (yAssign rfl) rfl rfl ?_
  refine lNil ?_
  refine kThen ?_
  refine kRet ?_
  refine fRet rfl (.t rfl .n) (endRet ?_)
  simp [packV]
set_option maxRecDepth 100000 in
theorem less_any (a b : Int) (w : World) : Calls Try.prog 148 [i64 a, i64 b].toArray w (Ret w (.bool (decide (a < b)))) := by
  refine fEnter Try.func148 rfl Try.ntmps148 rfl ?_
  refine kSeq ?_
  refine kRegion rfl ?_
  refine lV (yAssign rfl) rfl rfl ?_
  refine lNil ?_
  refine kThen ?_
  refine kSeq ?_
  refine kRegion rfl ?_
  refine lV (yMove rfl) rfl rfl ?_
  refine lV (yCall rfl (.c rfl .n) C153 (fun w hw => nan_any _ w)) rfl rfl ?_
  refine lV (yMove rfl) rfl rfl ?_
  refine lGN rfl rfl rfl rfl rfl ?_
  refine lGN rfl rfl rfl rfl rfl ?_
  refine lGN rfl rfl rfl rfl rfl ?_
  refine lV (yPickF rfl rfl) rfl rfl ?_
  refine lV (yMove rfl) rfl rfl ?_
  refine lGY rfl rfl rfl (oV (yMove rfl) rfl ?_)
  refine lGY rfl rfl rfl (oV (yMove rfl) rfl ?_)
  refine lGY rfl rfl rfl (oV (yLss rfl rfl) rfl ?_)
  refine lV (yPickF rfl rfl) rfl rfl ?_
  refine lV (yAssign rfl) rfl rfl ?_
  refine lNil ?_
  refine kThen ?_
  refine kRet ?_
  refine fRet rfl (.t rfl .n) (endRet ?_)
  rfl
def sortedL (l : List Int) : Prop := ∀ i, i < l.length → 0 < i → l.getD (i - 1) 0 ≤ l.getD i 0
abbrev rowI (n : Int) : List Value := [i64 n]

set_option maxRecDepth 100000 in
theorem sorted_any (a : Option Addr) (c : Nat) (l : List Int) (v : Bool) (w : World) (hs : SlE w a l.length 1 (fun i => rowI (l.getD i 0))) (hl : 1 ≤ l.length ∧ l.length ≤ 1000) (hv : v = true ↔ sortedL l) :
    Calls Try.prog 139 [.slice a l.length c].toArray w (Ret w (.bool v)) := by
  refine fEnter Try.func139 rfl Try.ntmps139 rfl ?_
  refine kSeq ?_
  refine kRegion rfl ?_
  refine lV (yAssign rfl) rfl rfl ?_
  refine lNil ?_
  refine kThen ?_
  refine kSeq ?_
  refine kSeq ?_
  refine kRegion rfl ?_
  refine lV (yMove rfl) rfl rfl ?_
  refine lV (yLen rfl S56) rfl rfl ?_
  refine lV (ySub rfl rfl (by omega)) rfl rfl ?_
  refine lV (yAssign rfl) rfl rfl ?_
  refine lNil ?_
  refine kThen ?_
  refine kBlock ?_
  refine kLoopX (ι := Nat) (fun k => k < l.length ∧ ∀ i, k < i → i < l.length → l.getD (i - 1) 0 ≤ l.getD i 0) (fun k => [(3, i64 (k : Nat))]) [(0, _), (4, _), (5, _), (6, _)] (fun k => []) (fun k => []) [] (fun k => k) (l.length - 1) (⟨by omega, fun i h h' => absurd h (by omega)⟩) rfl (.c (by show some (i64 _) = _; congr 2; omega) .n) (.c rfl (.c rfl (.c rfl (.c rfl .n)))) .n ?_
  rintro k ⟨hk, hok⟩
  refine kSeq ?_
  refine kSeq ?_
  refine kRegion rfl ?_
  refine lV (yMove rfl) rfl rfl ?_
  refine lV (yGtr rfl rfl) rfl rfl ?_
  refine lNil ?_
  refine kThen ?_
  refine split (t := 8) rfl (fun h8 => ?_) (fun h8 => ?_)
  · refine kIfT rfl ?_
    refine kSkip ?_
    refine kThen ?_
    refine kSeq ?_
    refine kBlock ?_
    refine kSeq ?_
    refine kDrawE [(2, none), (3, none), (7, none), (8, none), (9, none)] [] [0, 1, 2, 3, 4, 5, 6, 7, 8, 9] 0 hMix (by kernel_rfl) ?_
    refine .run rfl (yMove rfl) rfl rfl ?_
    refine .run rfl (yMove rfl) rfl rfl ?_
    refine .run rfl (yIndexS  rfl rfl S56 (hs.r) ((by omega))) rfl rfl ?_
    refine .run rfl (yLoad1 rfl O3 (cSl0 (hs.r) ((by omega)) rfl)) rfl rfl ?_
    refine .run rfl (yMove rfl) rfl rfl ?_
    refine .run rfl (yMove rfl) rfl rfl ?_
    refine .run rfl (yvSame (u := i64 ((k - 1 : Nat) : Int)) (ySub rfl rfl (by omega)) (by congr 2; omega)) rfl rfl ?_
    refine .run rfl (yIndexS  rfl rfl S56 (hs.r) ((by omega))) rfl rfl ?_
    refine .run rfl (yLoad1 rfl O3 (cSl0 (hs.r) ((by omega)) rfl)) rfl rfl ?_
    refine .run rfl (yCall rfl (.c rfl (.c rfl .n)) C148 (fun w hw => less_any _ _ w)) rfl rfl ?_
    refine .done ?_
    refine effDone closedSt (hLeft [2, 3, 7, 8, 9] (by kernel_rfl) (.c (fun _ _ hs => hs.ef) (.c (fun _ _ hs => hs.ef) (.c (fun _ _ hs => hs.ef) (.c (fun _ _ hs => hs.ef) (.c (fun _ _ hs => hs.ef) .n)))))) (by kernel_rfl) ?_
    refine kThen ?_
    refine split (t := 20) rfl (fun h20 => ?_) (fun h20 => ?_)
    · refine kIfT rfl ?_
      refine kSeq ?_
      refine kRegion rfl ?_
      refine lV (yAssign rfl) rfl rfl ?_
      refine lNil ?_
      refine kThen ?_
      refine kRet ?_
      refine kInR ?_
      refine kThenR ?_
      refine kThenR ?_
      refine kInR ?_
      refine kThenR ?_
      refine fRet rfl (.t rfl .n) (endRet ?_)
      have hvf : v = false := by
        cases v with
        | false => rfl
        | true => have := hv.1 rfl k hk (by omega); omega
      rw [hvf]; rfl
    · refine kIfF rfl ?_
      refine kSkip ?_
      refine kInN ?_
      refine kThen ?_
      refine kRegion rfl ?_
      refine lV (yMove rfl) rfl rfl ?_
      refine lV (ySub rfl rfl (by omega)) rfl rfl ?_
      refine lV (yAssign rfl) rfl rfl ?_
      refine lNil ?_
      exact kRoundX (k - 1) (⟨by omega, fun i h h' => by rcases Nat.lt_or_ge k i with h1 | h1; (· exact hok i h1 h'); (obtain rfl : i = k := by omega); omega⟩) (by omega) rfl (.c (by show some (i64 _) = _; congr 2; omega) .n) (.c rfl (.c rfl (.c rfl (.c rfl .n)))) .n
  · refine kIfF rfl ?_
    refine kExit ?_
    refine kThenX ?_
    refine kThenX ?_
    refine kInX ?_
    refine kThen ?_
    refine kSeq ?_
    refine kRegion rfl ?_
    refine lV (yAssign rfl) rfl rfl ?_
    refine lNil ?_
    refine kThen ?_
    refine kRet ?_
    refine fRet rfl (.t rfl .n) (endRet ?_)
    have hvt : v = true := hv.2 fun i hi h0 => hok i (by omega) hi
    rw [hvt]; rfl
theorem sorted4 {b c d e : Int} : (b ≤ c ∧ c ≤ d ∧ d ≤ e) ↔ sortedL [b, c, d, e] := by
  constructor
  · intro h i hi h0
    match i, hi, h0 with
    | 1, _, _ => exact h.1
    | 2, _, _ => exact h.2.1
    | 3, _, _ => exact h.2.2
  · intro h
    exact ⟨h 1 (by simp) (by omega), h 2 (by simp) (by omega), h 3 (by simp) (by omega)⟩
set_option maxRecDepth 100000 in
theorem ordered_any (n : Nat) {T : TypeId} {z : Nat × Nat} (b c d e : Int) (w : World) (hb : w.heap[n]? = some (.cells [i64 b, i64 c, i64 d, i64 e].toArray T z)) : Calls Try.prog 126 [.slice (some ⟨n, 0, none⟩) 4 4].toArray w (Ret w (.bool (decide (b ≤ c ∧ c ≤ d ∧ d ≤ e)))) := by
  refine fEnter Try.func126 rfl Try.ntmps126 rfl ?_
  refine kSeq ?_
  refine kRegion rfl ?_
  refine lV (yAssign rfl) rfl rfl ?_
  refine lNil ?_
  refine kThen ?_
  refine kSeq ?_
  refine kRegion rfl ?_
  refine lV (yMove rfl) rfl rfl ?_
  refine lV (yCall rfl (.c rfl .n) C139 (fun w hw => sorted_any _ 4 [b, c, d, e] (decide (b ≤ c ∧ c ≤ d ∧ d ≤ e)) w (sleRows (f := rowI) (fun _ => rfl) 0 [b, c, d, e] rfl (hw.old' hb)) (by simp) (by rw [decide_eq_true_eq, sorted4]))) rfl rfl ?_
  refine lV (yAssign rfl) rfl rfl ?_
  refine lNil ?_
  refine kThen ?_
  refine kRet ?_
  refine fRet rfl (.t rfl .n) (endRet ?_)
  rfl
set_option maxRecDepth 100000 in
theorem image_any (x : Int × Int) (w : World) : Calls Try.prog 125 [.agg (rowE x).toArray].toArray w (Ret w (.bool (decide (spanOk 0 32768 x)))) := by
  refine fEnter Try.func125 rfl Try.ntmps125 rfl ?_
  refine kSeq ?_
  refine kRegion rfl ?_
  refine lE rfl ?_
  refine eBoxA rfl fun n1 => ?_
  refine lV (yAssign rfl) rfl rfl ?_
  refine lNil ?_
  refine kThen ?_
  refine kSeq ?_
  refine kRegion rfl ?_
  refine lV (yFieldAddr rfl F23_0) rfl rfl ?_
  refine lV (yLoad1 rfl O3 (cOwn 0 rfl rfl)) rfl rfl ?_
  refine lV (yFieldAddr rfl F23_1) rfl rfl ?_
  refine lV (yLoad1 rfl O3 (cOwn 0 rfl rfl)) rfl rfl ?_
  refine lE rfl ?_
  refine eBuildSlice (.c rfl (.c rfl (.c rfl (.c rfl .n)))) (fun w => BS56_4_0_1_2_3 w) fun n7 => ?_
  refine lV (yCall rfl (.c rfl .n) C126 (fun w hw => ordered_any _ _ _ _ _ w (hw.blkAt 0 rfl))) rfl rfl ?_
  refine lV (yAssign rfl) rfl rfl ?_
  refine lNil ?_
  refine kThen ?_
  refine kRet ?_
  refine fRet rfl (.t rfl .n) (endRet ?_)
  rfl
set_option maxRecDepth 100000 in
theorem sky_any (x : Int × Int) (w : World) : Calls Try.prog 127 [.agg (rowE x).toArray].toArray w (Ret w (.bool (decide (spanOk (-1048576) 1048576 x)))) := by
  refine fEnter Try.func127 rfl Try.ntmps127 rfl ?_
  refine kSeq ?_
  refine kRegion rfl ?_
  refine lE rfl ?_
  refine eBoxA rfl fun n1 => ?_
  refine lV (yAssign rfl) rfl rfl ?_
  refine lNil ?_
  refine kThen ?_
  refine kSeq ?_
  refine kRegion rfl ?_
  refine lV (yFieldAddr rfl F23_0) rfl rfl ?_
  refine lV (yLoad1 rfl O3 (cOwn 0 rfl rfl)) rfl rfl ?_
  refine lV (yFieldAddr rfl F23_1) rfl rfl ?_
  refine lV (yLoad1 rfl O3 (cOwn 0 rfl rfl)) rfl rfl ?_
  refine lE rfl ?_
  refine eBuildSlice (.c rfl (.c rfl (.c rfl (.c rfl .n)))) (fun w => BS56_4_0_1_2_3 w) fun n7 => ?_
  refine lV (yCall rfl (.c rfl .n) C126 (fun w hw => ordered_any _ _ _ _ _ w (hw.blkAt 0 rfl))) rfl rfl ?_
  refine lV (yAssign rfl) rfl rfl ?_
  refine lNil ?_
  refine kThen ?_
  refine kRet ?_
  refine fRet rfl (.t rfl .n) (endRet ?_)
  rfl
theorem bad_val (s : StarV) : (!decide (starOk s)) = (!decide (spanOk 0 32768 s.x) || (!decide (spanOk 0 32768 s.y) || (s.k && (!decide (spanOk (-1048576) 1048576 s.e) || !decide (spanOk (-1048576) 1048576 s.n))))) := by
  unfold starOk
  by_cases h1 : spanOk 0 32768 s.x <;> by_cases h2 : spanOk 0 32768 s.y <;> by_cases h3 : s.k = true <;> by_cases h4 : spanOk (-1048576) 1048576 s.e <;> by_cases h5 : spanOk (-1048576) 1048576 s.n <;> simp [*]
set_option maxRecDepth 100000 in
theorem bad_any (n1 n2 : Nat) (s : StarV) (w : World) (h1 : w.heap[n1]? = some (blk [.func (.func 125) [].toArray [].toArray] 162)) (h2 : w.heap[n2]? = some (blk [.func (.func 127) [].toArray [].toArray] 162)) :
    Calls Try.prog 128 [.agg (rowS s).toArray, .pointer (some ⟨n1, 0, none⟩), .pointer (some ⟨n2, 0, none⟩)].toArray w (Ret w (.bool (!decide (starOk s)))) := by
  have hv := bad_val s
  refine fEnter Try.func128 rfl Try.ntmps128 rfl ?_
  refine kSeq ?_
  refine kRegion rfl ?_
  refine lE rfl ?_
  refine eBoxA rfl fun n3 => ?_
  refine lV (yAssign rfl) rfl rfl ?_
  refine lNil ?_
  refine kThen ?_
  refine kSeq ?_
  refine kRegion rfl ?_
  refine lV (yLoad1 rfl O162 (cOldB (h1) rfl)) rfl rfl ?_
  refine lV (yFieldAddr rfl F58_0) rfl rfl ?_
  refine lV (yLoadA (vs := [_, _]) rfl A23 (cOwn 0 rfl rfl)) rfl rfl ?_
  refine lV (yCall rfl (.c rfl .n) C125 (fun w hw => image_any _ w)) rfl rfl ?_
  refine lV (yNot rfl) rfl rfl ?_
  refine lV (yMove rfl) rfl rfl ?_
  refine splitB (t := 10) rfl (fun h10 => ?_) (fun h10 => ?_)
  · refine lGN rfl rfl rfl rfl rfl ?_
    refine lGN rfl rfl rfl rfl rfl ?_
    refine lGN rfl rfl rfl rfl rfl ?_
    refine lGN rfl rfl rfl rfl rfl ?_
    refine lGN rfl rfl rfl rfl rfl ?_
    refine lV (yPickT rfl rfl) rfl rfl ?_
    refine lV (yMove rfl) rfl rfl ?_
    refine lGN rfl rfl rfl rfl rfl ?_
    refine lGN rfl rfl rfl rfl rfl ?_
    refine lGN rfl rfl rfl rfl rfl ?_
    refine lGU rfl rfl rfl rfl ?_
    refine lGU rfl rfl rfl rfl ?_
    refine lGU rfl rfl rfl rfl ?_
    refine lGU rfl rfl rfl rfl ?_
    refine lGU rfl rfl rfl rfl ?_
    refine lGU rfl rfl rfl rfl ?_
    refine lGU rfl rfl rfl rfl ?_
    refine lGU rfl rfl rfl rfl ?_
    refine lGU rfl rfl rfl rfl ?_
    refine lGU rfl rfl rfl rfl ?_
    refine lGU rfl rfl rfl rfl ?_
    refine lGU rfl rfl rfl rfl ?_
    refine lGN rfl rfl rfl rfl rfl ?_
    refine lV (yPickT rfl rfl) rfl rfl ?_
    refine lV (yAssign rfl) rfl rfl ?_
    refine lNil ?_
    refine kThen ?_
    refine kRet ?_
    refine fRet rfl (.t rfl .n) (endRet ?_)
    simp only [packV]; rw [hv]; simp [*]
  · refine lGY rfl rfl rfl (oV (yLoad1 rfl O162 (cOldB (h1) rfl)) rfl ?_)
    refine lGY rfl rfl rfl (oV (yFieldAddr rfl F58_1) rfl ?_)
    refine lGY rfl rfl rfl (oV (yLoadA (vs := [_, _]) rfl A23 (cOwn 0 rfl rfl)) rfl ?_)
    refine lGY rfl rfl rfl (oV (yCall rfl (.c rfl .n) C125 (fun w hw => image_any _ w)) rfl ?_)
    refine lGY rfl rfl rfl (oV (yNot rfl) rfl ?_)
    refine lV (yPickF rfl rfl) rfl rfl ?_
    refine lV (yMove rfl) rfl rfl ?_
    refine splitB (t := 17) rfl (fun h17 => ?_) (fun h17 => ?_)
    · refine lGN rfl rfl rfl rfl rfl ?_
      refine lGN rfl rfl rfl rfl rfl ?_
      refine lGN rfl rfl rfl rfl rfl ?_
      refine lGU rfl rfl rfl rfl ?_
      refine lGU rfl rfl rfl rfl ?_
      refine lGU rfl rfl rfl rfl ?_
      refine lGU rfl rfl rfl rfl ?_
      refine lGU rfl rfl rfl rfl ?_
      refine lGU rfl rfl rfl rfl ?_
      refine lGU rfl rfl rfl rfl ?_
      refine lGU rfl rfl rfl rfl ?_
      refine lGU rfl rfl rfl rfl ?_
      refine lGU rfl rfl rfl rfl ?_
      refine lGU rfl rfl rfl rfl ?_
      refine lGU rfl rfl rfl rfl ?_
      refine lGN rfl rfl rfl rfl rfl ?_
      refine lV (yPickT rfl rfl) rfl rfl ?_
      refine lV (yAssign rfl) rfl rfl ?_
      refine lNil ?_
      refine kThen ?_
      refine kRet ?_
      refine fRet rfl (.t rfl .n) (endRet ?_)
      simp only [packV]; rw [hv]; simp [*]
    · refine lGY rfl rfl rfl (oV (yFieldAddr rfl F58_2) rfl ?_)
      refine lGY rfl rfl rfl (oV (yLoad1 rfl O4 (cOwn 0 rfl rfl)) rfl ?_)
      refine lGY rfl rfl rfl (oV (yMove rfl) rfl ?_)
      refine splitB (t := 20) rfl (fun h20 => ?_) (fun h20 => ?_)
      · refine lGY rfl rfl rfl (oV (yLoad1 rfl O162 (cOldB (h2) rfl)) rfl ?_)
        refine lGY rfl rfl rfl (oV (yFieldAddr rfl F58_3) rfl ?_)
        refine lGY rfl rfl rfl (oV (yLoadA (vs := [_, _]) rfl A23 (cOwn 0 rfl rfl)) rfl ?_)
        refine lGY rfl rfl rfl (oV (yCall rfl (.c rfl .n) C127 (fun w hw => sky_any _ w)) rfl ?_)
        refine lGY rfl rfl rfl (oV (yNot rfl) rfl ?_)
        refine lGY rfl rfl rfl (oV (yMove rfl) rfl ?_)
        refine splitB (t := 26) rfl (fun h26 => ?_) (fun h26 => ?_)
        · refine lGN rfl rfl rfl rfl rfl ?_
          refine lGN rfl rfl rfl rfl rfl ?_
          refine lGN rfl rfl rfl rfl rfl ?_
          refine lGN rfl rfl rfl rfl rfl ?_
          refine lGN rfl rfl rfl rfl rfl ?_
          refine lGY rfl rfl rfl (oV (yPickT rfl rfl) rfl ?_)
          refine lGY rfl rfl rfl (oV (yPickT rfl rfl) rfl ?_)
          refine lV (yPickF rfl rfl) rfl rfl ?_
          refine lV (yAssign rfl) rfl rfl ?_
          refine lNil ?_
          refine kThen ?_
          refine kRet ?_
          refine fRet rfl (.t rfl .n) (endRet ?_)
          simp only [packV]; rw [hv]; simp [*]
        · refine lGY rfl rfl rfl (oV (yLoad1 rfl O162 (cOldB (h2) rfl)) rfl ?_)
          refine lGY rfl rfl rfl (oV (yFieldAddr rfl F58_4) rfl ?_)
          refine lGY rfl rfl rfl (oV (yLoadA (vs := [_, _]) rfl A23 (cOwn 0 rfl rfl)) rfl ?_)
          refine lGY rfl rfl rfl (oV (yCall rfl (.c rfl .n) C127 (fun w hw => sky_any _ w)) rfl ?_)
          refine lGY rfl rfl rfl (oV (yNot rfl) rfl ?_)
          refine lGY rfl rfl rfl (oV (yPickF rfl rfl) rfl ?_)
          refine lGY rfl rfl rfl (oV (yPickT rfl rfl) rfl ?_)
          refine lV (yPickF rfl rfl) rfl rfl ?_
          refine lV (yAssign rfl) rfl rfl ?_
          refine lNil ?_
          refine kThen ?_
          refine kRet ?_
          refine fRet rfl (.t rfl .n) (endRet ?_)
          simp only [packV]; rw [hv]; simp [*]
      · refine lGN rfl rfl rfl rfl rfl ?_
        refine lGN rfl rfl rfl rfl rfl ?_
        refine lGN rfl rfl rfl rfl rfl ?_
        refine lGN rfl rfl rfl rfl rfl ?_
        refine lGN rfl rfl rfl rfl rfl ?_
        refine lGN rfl rfl rfl rfl rfl ?_
        refine lGU rfl rfl rfl rfl ?_
        refine lGU rfl rfl rfl rfl ?_
        refine lGU rfl rfl rfl rfl ?_
        refine lGU rfl rfl rfl rfl ?_
        refine lGU rfl rfl rfl rfl ?_
        refine lGN rfl rfl rfl rfl rfl ?_
        refine lGY rfl rfl rfl (oV (yPickF rfl rfl) rfl ?_)
        refine lV (yPickF rfl rfl) rfl rfl ?_
        refine lV (yAssign rfl) rfl rfl ?_
        refine lNil ?_
        refine kThen ?_
        refine kRet ?_
        refine fRet rfl (.t rfl .n) (endRet ?_)
        simp only [packV]; rw [hv]; simp [*]
end Go.Proofs.Ytlcdohhhhlhpmaa
