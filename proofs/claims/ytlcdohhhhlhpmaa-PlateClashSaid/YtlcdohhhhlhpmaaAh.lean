/-
  Walks: the truth of a plate of which some star is known; its scale.
-/
import Derived.Test.YtlcdohhhhlhpmaaAg
namespace Go.Proofs.Ytlcdohhhhlhpmaa
open ZW

/-- The errors of what asks for a star that is known, too. -/
def toldE (p : Plt) (is : Bool) : Int := if truthE p is ≠ 0 then truthE p is else if knownP p = 0 then 12 else 0
theorem toldE_ok {p : Plt} {is : Bool} (h : toldE p is = 0) : truthE p is = 0 ∧ knownP p ≠ 0 := by
  unfold toldE at h
  split at h
  · rename_i h1; exact absurd h h1
  · rename_i h1
    refine ⟨Decidable.not_not.1 h1, fun hk => ?_⟩
    rw [if_pos hk] at h; cases h
set_option maxRecDepth 100000 in
theorem told_any (y : Option Addr × Nat) (p : Plt) (is : Bool) (w : World) (hm : InP w y p) (h : toldE p is = 0) : Calls Try.prog 59 [.agg (pltC y p).toArray, .bool is].toArray w
    (RetX w (fun _ : Nat × Nat => True) (fun x => .pointer (some ⟨x.1, 0, none⟩)) (fun _ => []) (truthL y p)) := by
  have h1 := toldE_ok h
  refine fEnter Try.func59 rfl Try.ntmps59 rfl ?_
  refine kSeq ?_
  refine kRegion rfl ?_
  refine lE rfl ?_
  refine eBoxA rfl fun n2 => ?_
  refine lV (yAssign rfl) rfl rfl ?_
  refine lNil ?_
  refine kThen ?_
  refine kSeq ?_
  refine kRegion rfl ?_
  refine lV (yLoadA (vs := [_, _, _]) rfl A26 (cOwn 0 rfl rfl)) rfl rfl ?_
  refine lV (yMove rfl) rfl rfl ?_
  refine lE rfl ?_
  refine eCallX rfl (.c rfl (.c rfl .n)) C55 (fun w hw => truth_any y p is w (hm.eff0 hw) h1.1) fun ⟨pb, mb⟩ _ => ?_
  refine lV (yAssign rfl) rfl rfl ?_
  refine lNil ?_
  refine kThen ?_
  refine kSeq ?_
  refine kRegion rfl ?_
  refine lV (yMove rfl) rfl rfl ?_
  refine lV (yCall rfl (.c rfl .n) C81 (fun w hw => known_any pb mb y p w (hw.blkAt 0 rfl) (hm.eff0 hw) (truthE_ok h1.1).1.n)) rfl rfl ?_
  refine lV (yNeq rfl rfl) rfl rfl ?_
  refine knownB (t := 11) (c := true) rfl (decide_eq_true (by have := h1.2; omega)) ?_
  refine lV (yCall rfl (.c rfl (.c rfl .n)) C76 (fun w hw => need_ok 12 w)) rfl rfl ?_
  refine lNil ?_
  refine kThen ?_
  refine kSeq ?_
  refine kRegion rfl ?_
  refine lV (yMove rfl) rfl rfl ?_
  refine lV (yAssign rfl) rfl rfl ?_
  refine lNil ?_
  refine kThen ?_
  refine kRet ?_
  refine fRet rfl (.t rfl .n) ?_
  exact endX (pb, mb) trivial rfl rfl (.c 0 rfl (.c 0 rfl .n))
set_option maxRecDepth 100000 in
theorem told_bad (y : Option Addr × Nat) (p : Plt) (is : Bool) (w : World) (hm : InP w y p) (h : toldE p is ≠ 0) : Calls Try.prog 59 [.agg (pltC y p).toArray, .bool is].toArray w (Pan w (misV (toldE p is))) := by
  by_cases h1 : truthE p is = 0
  · have hk : knownP p = 0 := by
      unfold toldE at h
      rw [if_neg (not_not_intro h1)] at h
      split at h
      · assumption
      · exact absurd rfl h
    have he : toldE p is = 12 := by unfold toldE; rw [if_neg (not_not_intro h1), if_pos hk]
    rw [he]
    refine fEnter Try.func59 rfl Try.ntmps59 rfl ?_
    refine kSeq ?_
    refine kRegion rfl ?_
    refine lE rfl ?_
    refine eBoxA rfl fun n2 => ?_
    refine lV (yAssign rfl) rfl rfl ?_
    refine lNil ?_
    refine kThen ?_
    refine kSeq ?_
    refine kRegion rfl ?_
    refine lV (yLoadA (vs := [_, _, _]) rfl A26 (cOwn 0 rfl rfl)) rfl rfl ?_
    refine lV (yMove rfl) rfl rfl ?_
    refine lE rfl ?_
    refine eCallX rfl (.c rfl (.c rfl .n)) C55 (fun w hw => truth_any y p is w (hm.eff0 hw) h1) fun ⟨pb, mb⟩ _ => ?_
    refine lV (yAssign rfl) rfl rfl ?_
    refine lNil ?_
    refine kThen ?_
    refine kSeq ?_
    refine kRegion rfl ?_
    refine lV (yMove rfl) rfl rfl ?_
    refine lV (yCall rfl (.c rfl .n) C81 (fun w hw => known_any pb mb y p w (hw.blkAt 0 rfl) (hm.eff0 hw) (truthE_ok h1).1.n)) rfl rfl ?_
    refine lV (yNeq rfl rfl) rfl rfl ?_
    refine knownB (t := 11) (c := false) rfl (decide_eq_false (by rw [hk]; decide)) ?_
    refine lE rfl ?_
    refine eCallP rfl (.c rfl (.c rfl .n)) C76 (fun w hw => need_pan 12 w) ?_
    refine kThenP ?_
    exact fPan (endPan rfl)
  · have he : toldE p is = truthE p is := by unfold toldE; rw [if_pos h1]
    rw [he]
    refine fEnter Try.func59 rfl Try.ntmps59 rfl ?_
    refine kSeq ?_
    refine kRegion rfl ?_
    refine lE rfl ?_
    refine eBoxA rfl fun n2 => ?_
    refine lV (yAssign rfl) rfl rfl ?_
    refine lNil ?_
    refine kThen ?_
    refine kSeq ?_
    refine kRegion rfl ?_
    refine lV (yLoadA (vs := [_, _, _]) rfl A26 (cOwn 0 rfl rfl)) rfl rfl ?_
    refine lV (yMove rfl) rfl rfl ?_
    refine lE rfl ?_
    refine eCallP rfl (.c rfl (.c rfl .n)) C55 (fun w hw => truth_bad y p is w (hm.eff0 hw) h1) ?_
    refine kThenP ?_
    exact fPan (endPan rfl)

/-! ### The least and the greatest -/
/-- These are the ends of a set of numbers. -/
def Hull (a : Ends) (S : Int → Prop) : Prop := (a = end0 ∧ ∀ x, ¬ S x) ∨ (a.some = true ∧ S a.lo ∧ S a.hi ∧ ∀ x, S x → a.lo ≤ x ∧ x ≤ a.hi)
theorem Hull.congr {a : Ends} {S T : Int → Prop} (h : Hull a S) (e : ∀ x, S x ↔ T x) : Hull a T := by
  have : S = T := funext fun x => propext (e x)
  rw [← this]; exact h
theorem Hull.empty : Hull end0 (fun _ => False) := .inl ⟨rfl, fun _ h => h⟩
theorem Hull.keep {a : Ends} {S : Int → Prop} (h : Hull a S) (x : Int) : Hull (keepE a x) (fun y => S y ∨ y = x) := by
  rcases h with ⟨rfl, h⟩ | ⟨h1, h2, h3, h4⟩
  · refine .inr ⟨rfl, .inr rfl, .inr rfl, fun y hy => ?_⟩
    rcases hy with hy | rfl
    · exact absurd hy (h y)
    · exact ⟨Int.le_refl _, Int.le_refl _⟩
  · unfold keepE
    rw [if_pos h1]
    refine .inr ⟨rfl, ?_, ?_, fun y hy => ?_⟩
    · dsimp only
      by_cases hc : a.lo ≤ x
      · rw [Int.min_eq_left hc]; exact .inl h2
      · rw [Int.min_eq_right (by omega)]; exact .inr rfl
    · dsimp only
      by_cases hc : a.hi ≤ x
      · rw [Int.max_eq_right hc]; exact .inr rfl
      · rw [Int.max_eq_left (by omega)]; exact .inl h3
    · dsimp only
      rcases hy with hy | rfl
      · have := h4 y hy; omega
      · omega
theorem Hull.uniq {a b : Ends} {S : Int → Prop} (h : Hull a S) (h' : Hull b S) : a = b := by
  rcases h with ⟨rfl, h⟩ | ⟨h1, h2, h3, h4⟩ <;> rcases h' with ⟨rfl, h'⟩ | ⟨h1', h2', h3', h4'⟩
  · rfl
  · exact absurd h2' (h _)
  · exact absurd h2 (h' _)
  · have e1 := h4 _ h2'; have e2 := h4 _ h3'; have e3 := h4' _ h2; have e4 := h4' _ h3
    cases a; cases b
    simp only at *
    congr 1
    · omega
    · omega
    · rw [h1, h1']
/-- The ends of a list of numbers. -/
def hullE (l : List Int) : Ends := l.foldl keepE end0
theorem hullE_fold (l : List Int) : ∀ (a : Ends) (S : Int → Prop), Hull a S → Hull (l.foldl keepE a) (fun y => S y ∨ y ∈ l) := by
  induction l with
  | nil => intro a S h; exact h.congr fun x => by simp
  | cons x l ih =>
    intro a S h
    exact (ih _ _ (h.keep x)).congr fun y => by simp [or_assoc]
theorem hullE_hull (l : List Int) : Hull (hullE l) (· ∈ l) := (hullE_fold l _ _ Hull.empty).congr fun x => by simp
theorem Hull.eq {a : Ends} {S : Int → Prop} {l : List Int} (h : Hull a S) (e : ∀ x, S x ↔ x ∈ l) : a = hullE l := (h.congr e).uniq (hullE_hull l)

/-- What is kept of the entries that were handed out. -/
def SeenS (seen : Array Nat) (F : Nat → List Int) (v : Int) : Prop := ∃ i, seen.contains i = true ∧ v ∈ F i
theorem seen_push {seen : Array Nat} {j n : Nat} (h : ∀ i, seen.contains i = true → i < n) (hj : j < n) : ∀ i, (seen.push j).contains i = true → i < n := fun i hi => by
  rw [contains_push, Bool.or_eq_true] at hi
  rcases hi with hi | hi
  · exact h i hi
  · have : i = j := by simpa using hi
    omega
theorem SeenS.empty (F : Nat → List Int) : Hull end0 (SeenS #[] F) := Hull.empty.congr fun v => by simp [SeenS]
theorem SeenS.push {a : Ends} {seen : Array Nat} {F : Nat → List Int} (j : Nat) (h : Hull a (SeenS seen F)) : Hull ((F j).foldl keepE a) (SeenS (seen.push j) F) := by
  refine (hullE_fold (F j) _ _ h).congr fun v => ?_
  unfold SeenS
  constructor
  · rintro (⟨i, hi, hv⟩ | hv)
    · exact ⟨i, by rw [contains_push, hi]; rfl, hv⟩
    · exact ⟨j, by rw [contains_push]; simp, hv⟩
  · rintro ⟨i, hi, hv⟩
    rw [contains_push, Bool.or_eq_true] at hi
    rcases hi with hi | hi
    · exact .inl ⟨i, hi, hv⟩
    · have : i = j := by simpa using hi
      rw [this] at hv; exact .inr hv
theorem SeenS.all {a : Ends} {seen : Array Nat} {l : List Int} {G : Int → List Int} {n : Nat} (h : Hull a (SeenS seen fun i => G (l.getD i 0))) (hn : n = l.length) (hs : ∀ i, seen.contains i = true → i < n) (ha : ∀ i, i < n → seen.contains i = true) :
    a = hullE (l.flatMap G) := by
  refine h.eq fun v => ?_
  rw [List.mem_flatMap]
  unfold SeenS
  constructor
  · rintro ⟨i, hi, hv⟩
    exact ⟨_, getD_mem (by have := hs i hi; omega) 0, hv⟩
  · rintro ⟨x, hx, hv⟩
    obtain ⟨i, hi, rfl⟩ := List.mem_iff_getElem.1 hx
    refine ⟨i, ha i (by omega), ?_⟩
    show v ∈ G (l.getD i 0)
    rw [← List.getElem_eq_getD (h := hi)]; exact hv
theorem esP_get {p : Plt} {set k j : Nat} {v : Int × Value} (h : (esP p set k)[j]? = some v) : j < k ∧ v = ((scalesP p set).getD j 0, .agg (cornC p set ((scalesP p set).getD j 0)).toArray) := by
  unfold esP at h
  rw [List.getElem?_map] at h
  have hj : j < k := by
    cases hc : (List.range k)[j]? with
    | none => rw [hc] at h; cases h
    | some x => exact by simpa using (List.getElem?_eq_some_iff.1 hc).1
  rw [List.getElem?_range hj] at h
  simp only [Option.map_some, Option.some.injEq] at h
  exact ⟨hj, h.symm⟩

abbrev spanV (x : Int × Int) : Value := .agg (rowE x).toArray
abbrev outC (r : (Int × Int) × Int) : Value := .tuple [spanV r.1, i64 r.2].toArray
abbrev spanE (a : Ends) : Int × Int := (a.lo, a.hi)
def scaleE (p : Plt) : (Int × Int) × Int := if truthE p true ≠ 0 then ((0, 0), truthE p true) else (spanE (hullE ((scalesP p (knownP p)).flatMap fun s => [s])), 0)

set_option maxRecDepth 100000 in
theorem scale_bad (y : Option Addr × Nat) (p : Plt) (w : World) (hm : InP w y p) (h : truthE p true ≠ 0) : Calls Try.prog 15 [.agg (pltC y p).toArray].toArray w (Ret w (outC (scaleE p))) := by
  refine fEnter Try.func15 rfl Try.ntmps15 rfl ?_
  refine kSeq ?_
  refine kRegion rfl ?_
  refine lE rfl ?_
  refine eBoxA rfl fun n1 => ?_
  refine lE rfl ?_
  refine eAlloc Z23 fun n2 => ?_
  refine lE rfl ?_
  refine eAlloc Z29 fun n3 => ?_
  refine lNil ?_
  refine kThen ?_
  refine kSeq ?_
  refine kRegion rfl ?_
  refine lV (yMakeFunc .n (.c rfl .n)) rfl rfl ?_
  refine lE rfl ?_
  refine eDefer rfl .n ?_
  refine lNil ?_
  refine kThen ?_
  refine kSeq ?_
  refine kRegion rfl ?_
  refine lE rfl ?_
  refine eAlloc Z86 fun n4 => ?_
  refine lNil ?_
  refine kThen ?_
  refine kSeq ?_
  refine kRegion rfl ?_
  refine lV (yMakeFunc (.c rfl .n) .n) rfl rfl ?_
  refine lV (yAssign rfl) rfl rfl ?_
  refine lNil ?_
  refine kThen ?_
  refine kSeq ?_
  refine kSeq ?_
  refine kRegion rfl ?_
  refine lV (yLoadA (vs := [_, _, _]) rfl A26 (cOwn 3 rfl rfl)) rfl rfl ?_
  refine lE rfl ?_
  refine eCallP rfl (.c rfl (.c rfl .n)) C55 (fun w hw => truth_bad y p true w (hm.eff0 hw) h) ?_
  refine kThenP ?_
  refine kThenP ?_
  refine fPanC 1 DScale C52 rfl rfl (.cA (us := [_, _]) rfl A23 (cOwn 2 rfl rfl) (.c1 rfl O29 (cOwn 1 rfl rfl) .n)) (endRet ?_)
  simp only [packV, scaleE, if_pos h]
set_option maxRecDepth 100000 in
set_option maxHeartbeats 1000000 in
theorem scale_ok (y : Option Addr × Nat) (p : Plt) (w : World) (hm : InP w y p) (h : truthE p true = 0) : Calls Try.prog 15 [.agg (pltC y p).toArray].toArray w (Ret w (outC (scaleE p))) := by
  refine fEnter Try.func15 rfl Try.ntmps15 rfl ?_
  refine kSeq ?_
  refine kRegion rfl ?_
  refine lE rfl ?_
  refine eBoxA rfl fun n1 => ?_
  refine lE rfl ?_
  refine eAlloc Z23 fun n2 => ?_
  refine lE rfl ?_
  refine eAlloc Z29 fun n3 => ?_
  refine lNil ?_
  refine kThen ?_
  refine kSeq ?_
  refine kRegion rfl ?_
  refine lV (yMakeFunc .n (.c rfl .n)) rfl rfl ?_
  refine lE rfl ?_
  refine eDefer rfl .n ?_
  refine lNil ?_
  refine kThen ?_
  refine kSeq ?_
  refine kRegion rfl ?_
  refine lE rfl ?_
  refine eAlloc Z86 fun n4 => ?_
  refine lNil ?_
  refine kThen ?_
  refine kSeq ?_
  refine kRegion rfl ?_
  refine lV (yMakeFunc (.c rfl .n) .n) rfl rfl ?_
  refine lV (yAssign rfl) rfl rfl ?_
  refine lNil ?_
  refine kThen ?_
  refine kSeq ?_
  refine kSeq ?_
  refine kRegion rfl ?_
  refine lV (yLoadA (vs := [_, _, _]) rfl A26 (cOwn 3 rfl rfl)) rfl rfl ?_
  refine lE rfl ?_
  refine eCallX rfl (.c rfl (.c rfl .n)) C55 (fun w hw => truth_any y p true w (hm.eff0 hw) h) fun ⟨pb, mb⟩ _ => ?_
  refine lV (yNilCheckP rfl) rfl rfl ?_
  refine lV (yFieldAddr rfl F90_1) rfl rfl ?_
  refine lV (yLoad1 rfl O88 (cOwn 0 rfl rfl)) rfl rfl ?_
  refine lE rfl ?_
  refine eRange MP88 rfl (fun w hw => hw.blkAt 1 rfl) fun it => ?_
  refine lNil ?_
  refine kThen ?_
  refine kBlock ?_
  refine kLoopX (ι := Array Nat × Ends) (fun x => (∀ j, x.1.contains j = true → j < (filS p (knownP p) (nSc p)).length) ∧ Hull x.2 (SeenS x.1 fun i => [(scalesP p (knownP p)).getD i 0])) (fun x => []) [(0, _), (1, _), (2, _), (3, _), (7, _), (4, _), (8, _), (5, _), (9, _), (10, _), (11, _), (12, _), (13, _), (14, _)] (fun x => []) (fun x => [(it, itO mb (esA p (knownP p)) x.1), (n4, blk (endC x.2) 86)]) [(pb, _), (mb, _), (n3, _), (n2, _), (n1, _)] (fun x => leftN (filS p (knownP p) (nSc p)).length x.1) (#[], end0) (⟨fun j h => by simp at h, SeenS.empty _⟩) rfl .n (.c rfl (.c rfl (.c rfl (.c rfl (.c rfl (.c rfl (.c rfl (.c rfl (.c rfl (.c rfl (.c rfl (.c rfl (.c rfl (.c rfl .n)))))))))))))) (.c 1 rfl (.c 1 rfl (.c 2 rfl (.c 2 rfl (.c 2 rfl (.c 0 rfl (.c 0 rfl .n))))))) ?_
  rintro ⟨seen, a⟩ ⟨hsn, ha⟩
  dsimp only at hsn ha ⊢
  refine kSeq ?_
  refine kRegion rfl ?_
  refine lE rfl ?_
  refine eNext 5 rfl rfl (fun w hw => hw.blkAt 1 rfl) (fun hall => ?_) (fun j p hj hsj => ?_)
  · refine lV (yExtract rfl rfl) rfl rfl ?_
    refine lNil ?_
    refine kThen ?_
    refine kSeq ?_
    refine kIfF rfl ?_
    refine kExit ?_
    refine kThenX ?_
    refine kThenX ?_
    refine kInX ?_
    refine kThen ?_
    refine kSeq ?_
    refine kRegion rfl ?_
    refine lV (yLoadA (vs := [_, _, _]) rfl A86 (cOwn 6 rfl rfl)) rfl rfl ?_
    refine lV (yCall rfl (.c rfl .n) C56 (fun w hw => span_any _ w)) rfl rfl ?_
    refine lE rfl ?_
    refine eStoreL 3 rfl rfl rfl rfl K23 rfl (rfl) ?_
    refine lE rfl ?_
    refine eStoreL 2 rfl rfl rfl rfl K29 rfl (rfl) ?_
    refine lNil ?_
    refine kThen ?_
    refine kRet ?_
    refine fRetC DScale C52 rfl (.cA (us := [_, _]) rfl A23 (cOwn 3 rfl rfl) (.c1 rfl O29 (cOwn 2 rfl rfl) .n)) (endRet ?_)
    have he := SeenS.all (G := fun s => [s]) ha (scalesP_len p (knownP p)).symm hsn (fun i hi => hall i (by rw [esP_len]; exact hi))
    subst he
    simp only [packV, scaleE, if_neg (not_not_intro h)]
  · obtain ⟨hjl, rfl⟩ := esP_get hj
    refine lV (yExtract rfl rfl) rfl rfl ?_
    refine lNil ?_
    refine kThen ?_
    refine kSeq ?_
    refine kIfT rfl ?_
    refine kSkip ?_
    refine kThen ?_
    refine kBlock ?_
    refine kSeq ?_
    refine kRegion rfl ?_
    refine lV (yEntry rfl hj (fun w hw => ⟨hw.blkAt 5 rfl, hw.blkAt 1 rfl⟩)) rfl rfl ?_
    refine lV (yExtract rfl rfl) rfl rfl ?_
    refine lV (yAssign rfl) rfl rfl ?_
    refine lNil ?_
    refine kThen ?_
    refine kRegion rfl ?_
    refine lV (yMove rfl) rfl rfl ?_
    refine lV (yMove rfl) rfl rfl ?_
    refine lE rfl ?_
    refine eCallW 6 rfl rfl (.c rfl .n) C54 (fun w hw hb => keep1 _ a _ w hb) ?_
    refine lNil ?_
    refine kInN ?_
    exact kRoundX (seen.push j, keepE a ((scalesP p (knownP p)).getD j 0)) (⟨seen_push hsn hjl, SeenS.push j ha⟩) (leftN_push hjl hsj) rfl .n (.c rfl (.c rfl (.c rfl (.c rfl (.c rfl (.c rfl (.c rfl (.c rfl (.c rfl (.c rfl (.c rfl (.c rfl (.c rfl (.c rfl .n)))))))))))))) (.c 0 rfl (.c 0 rfl (.c 0 rfl (.c 0 rfl (.c 0 rfl (.c 0 rfl (.c 0 rfl .n)))))))
theorem scale_any (y : Option Addr × Nat) (p : Plt) (w : World) (hm : InP w y p) : Calls Try.prog 15 [.agg (pltC y p).toArray].toArray w (Ret w (outC (scaleE p))) := by
  by_cases h : truthE p true = 0
  · exact scale_ok y p w hm h
  · exact scale_bad y p w hm h
end Go.Proofs.Ytlcdohhhhlhpmaa
