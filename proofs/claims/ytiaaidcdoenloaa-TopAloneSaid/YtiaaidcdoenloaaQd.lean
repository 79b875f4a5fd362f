/-
  Walks: by how much numbers can be greater than one.
-/
import Derived.Test.YtiaaidcdoenloaaQc
namespace Go.Proofs.Ytiaaidcdoenloaa
open ZW

theorem SlE.lt {w : World} {a : Option Addr} {n sz : Nat} {f : Nat → List Value} (h : SlE w a n sz f) (hn : 0 < n) (hz : 0 < sz) : sblk a < w.heap.size := by
  have h1 := h.cell 0 0 hn hz
  have h2 := h.len 0 hn
  rw [List.getElem?_eq_getElem (by omega)] at h1
  unfold World.cell? at h1
  rcases Nat.lt_or_ge (sblk a) w.heap.size with h3 | h3
  · exact h3
  · simp [Array.getElem?_eq_none h3] at h1
abbrev lnkC (l : List Lnk) (i : Nat) : List Value := rowL (l.getD i lnk0)
/-- After the first links. -/
def stepsP (l : List Lnk) (m : DMap) (i : Nat) : DMap × Bool := (l.take i).foldl stepN (m, false)
theorem stepsP_succ (l : List Lnk) (m : DMap) {i : Nat} (hi : i < l.length) : stepsP l m (i + 1) = stepN (stepsP l m i) (l.getD i lnk0) := by
  unfold stepsP
  rw [List.take_add_one, List.foldl_append, List.getElem?_eq_getElem hi, ← List.getElem_eq_getD (h := hi)]
  rfl
theorem stepsP_all (l : List Lnk) (m : DMap) : stepsP l m l.length = narrowP l m := by unfold stepsP narrowP; rw [List.take_length]
/-- What is known is not large. -/
def Sml (B : Int) (m : DMap) : Prop := ∀ v d, m v = some d → -B ≤ d ∧ d ≤ B
theorem Sml.set {B C : Int} {m : DMap} (h : Sml B m) (hC : 0 ≤ C) {v : Nat} {d : Int} (hd : -(B + C) ≤ d ∧ d ≤ B + C) : Sml (B + C) (setD m v d) := fun u e he => by
  unfold setD at he
  split at he
  · cases he; exact hd
  · have := h u e he; omega
theorem Sml.mono {B C : Int} {m : DMap} (h : Sml B m) (hC : B ≤ C) : Sml C m := fun u e he => by have := h u e he; omega
theorem Sml.relax {B : Int} {m : DMap} (h : Sml B m) {x : Lnk} (hx : -100000 ≤ x.2.2 ∧ x.2.2 ≤ 100000) : Sml (B + 100000) (relaxP m x).1 := by
  have key : ∀ a, m x.1 = some a → Sml (B + 100000) (setD m x.2.1 (a + x.2.2)) := fun a ha => h.set (by omega) (by have := h _ _ ha; omega)
  unfold relaxP
  split
  · exact h.mono (by omega)
  · rename_i a ha
    split
    · exact key a ha
    · split
      · exact key a ha
      · exact h.mono (by omega)
theorem Sml.steps {B : Int} {m : DMap} {l : List Lnk} (h : Sml B m) (hl : ∀ x ∈ l, -100000 ≤ x.2.2 ∧ x.2.2 ≤ 100000) : ∀ i, i ≤ l.length → Sml (B + 100000 * i) (stepsP l m i).1
  | 0, _ => by simpa [stepsP] using h
  | i + 1, hi => by
    have ih := Sml.steps h hl i (by omega)
    rw [stepsP_succ l m (by omega)]
    exact (ih.relax (hl _ (getD_mem (by omega) lnk0))).mono (by omega)
theorem relax_set {m : DMap} {x : Lnk} {a : Int} (ha : m x.1 = some a) (hb : ∀ b, m x.2.1 = some b → a + x.2.2 < b) : relaxP m x = (setD m x.2.1 (a + x.2.2), true) := by
  unfold relaxP
  rw [ha]
  cases hm : m x.2.1 with
  | none => simp only
  | some b => simp only; rw [if_pos (hb b hm)]
theorem relax_none {m : DMap} {x : Lnk} (ha : m x.1 = none) : relaxP m x = (m, false) := by unfold relaxP; rw [ha]
theorem step_set {s : DMap × Bool} {x : Lnk} {a : Int} (ha : s.1 x.1 = some a) (hb : ∀ b, s.1 x.2.1 = some b → a + x.2.2 < b) : stepN s x = (setD s.1 x.2.1 (a + x.2.2), true) := by
  unfold stepN; rw [relax_set ha hb]; simp
theorem step_still {s : DMap × Bool} {x : Lnk} (h : relaxP s.1 x = (s.1, false)) : stepN s x = s := by
  unfold stepN; rw [h]; simp
theorem relax_keep {m : DMap} {x : Lnk} {a b : Int} (ha : m x.1 = some a) (hb : m x.2.1 = some b) (h : ¬ a + x.2.2 < b) : relaxP m x = (m, false) :=
  relax_no fun a' ha' => by rw [ha] at ha'; cases ha'; exact ⟨b, hb, by omega⟩

/-- What narrow shares. -/
structure NarW (w : World) (nl nm q : Nat) (a : Option Addr) (c : Nat) (l : List Lnk) (es : List (Int × Value)) : Prop where
  kl : w.heap[nl]? = some (blk [.slice a l.length c] 130)
  km : w.heap[nm]? = some (blk [.map (some q)] 132)
  kq : w.heap[q]? = some (mapO .i64 es)
  s : SlE w a l.length 3 (lnkC l)
  n : nl ≠ sblk a ∧ nm ≠ sblk a ∧ q ≠ sblk a

theorem NarW.mem {w : World} {nl nm q : Nat} {a : Option Addr} {c : Nat} {l : List Lnk} {es : List (Int × Value)} (h : NarW w nl nm q a c l es) : Eff w [(q, mapO .i64 es), (nl, blk [.slice a l.length c] 130), (nm, blk [.map (some q)] 132)] [] w := by
  refine Eff.many (fun p hp => ?_) ?_
  · simp only [List.mem_cons, List.not_mem_nil, or_false] at hp
    rcases hp with rfl | rfl | rfl
    · exact h.kq
    · exact h.kl
    · exact h.km
  · have h1 : q ≠ nl := by rintro rfl; have := h.kl.symm.trans h.kq; cases this
    have h2 : q ≠ nm := by rintro rfl; have := h.km.symm.trans h.kq; cases this
    have h3 : nl ≠ nm := by rintro rfl; have := h.km.symm.trans h.kl; cases this
    simp [h1, h2, h3]

set_option maxRecDepth 100000 in
set_option maxHeartbeats 4000000 in
theorem narrow_any (nl nm q : Nat) (a : Option Addr) (c : Nat) (l : List Lnk) (es : List (Int × Value)) (m : DMap) (B : Int) (w : World) (h : NarW w nl nm q a c l es) (hr : Rep es m) (hl : ∀ x ∈ l, -100000 ≤ x.2.2 ∧ x.2.2 ≤ 100000) (hn : l.length ≤ 1000)
    (hB : Sml B m) (hB1 : B ≤ 1000000000000000) :
    Calls Try.prog 107 [.pointer (some ⟨nl, 0, none⟩), .pointer (some ⟨nm, 0, none⟩)].toArray w
      (RetX w (fun es' => Rep es' (narrowP l m).1) (fun _ => .bool (narrowP l m).2) (fun es' => [(q, mapO .i64 es')]) (fun _ => [])) := by
  have hs : ∀ {L : Heap} {es' : List (Int × Value)}, SlR (Eff w [(q, mapO .i64 es'), (nl, blk [.slice a l.length c] 130), (nm, blk [.map (some q)] 132)] L) a l.length 3 (lnkC l) := fun {L es'} => h.s.r (by
    intro p hp
    simp only [List.mem_cons, List.not_mem_nil, or_false] at hp
    rcases hp with rfl | rfl | rfl
    · exact h.n.2.2
    · exact h.n.1
    · exact h.n.2.1)
  refine fEnterM h.mem Try.func107 rfl Try.ntmps107 rfl ?_
  refine kSeq ?_
  refine kRegion rfl ?_
  refine lV (yAssign rfl) rfl rfl ?_
  refine lNil ?_
  refine kThen ?_
  refine kSeq ?_
  refine kSeq ?_
  refine kRegion rfl ?_
  refine lV (yLoad1 rfl O130 (cOwn 1 rfl rfl)) rfl rfl ?_
  refine lV (yLen rfl S130) rfl rfl ?_
  refine lV (yMove rfl) rfl rfl ?_
  refine lNil ?_
  refine kThen ?_
  refine kBlock ?_
  refine kLoopX (ι := Nat × List (Int × Value) × Bool) (fun x => x.1 ≤ l.length ∧ Rep x.2.1 (stepsP l m x.1).1 ∧ x.2.2 = (stepsP l m x.1).2) (fun x => [(11, i64 (x.1 : Nat)), (2, .bool x.2.2)]) [(0, _), (1, _), (9, _), (10, _)] (fun x => [(q, mapO .i64 x.2.1), (nl, blk [.slice a l.length c] 130), (nm, blk [.map (some q)] 132)]) (fun x => []) [] (fun x => l.length - x.1) (0, es, false) (⟨Nat.zero_le _, hr, rfl⟩) rfl (.c rfl (.c rfl .n)) (.c rfl (.c rfl (.c rfl (.c rfl .n)))) .n ?_
  rintro ⟨i, fs, b⟩ ⟨hi, hfs, hb⟩
  dsimp only at hi hfs hb ⊢
  have hsm : i < l.length → Sml (B + 100000 * i) (stepsP l m i).1 := fun h => hB.steps hl i hi
  refine kSeq ?_
  refine kRegion rfl ?_
  refine lV (yLss rfl rfl) rfl rfl ?_
  refine lNil ?_
  refine kThen ?_
  refine kSeq ?_
  refine split (t := 12) rfl (fun h12 => ?_) (fun h12 => ?_)
  · refine kIfT rfl ?_
    refine kSkip ?_
    refine kThen ?_
    refine kSeq ?_
    refine kBlock ?_
    refine kSeq ?_
    refine kRegion rfl ?_
    refine lV (yIndexS  rfl rfl S130 (hs) ((by omega))) rfl rfl ?_
    refine lV (yLoadA (vs := [_, _, _]) rfl A163 (cSl0 (hs) ((by omega)) rfl)) rfl rfl ?_
    refine lE rfl ?_
    refine eAlloc Z163 fun n4 => ?_
    refine lE rfl ?_
    refine eStoreL 0 rfl rfl rfl rfl K163 rfl (rfl) ?_
    refine lNil ?_
    refine kThen ?_
    refine kSeq ?_
    refine kRegion rfl ?_
    refine lV (yLoad1 rfl O132 (cOwn 2 rfl rfl)) rfl rfl ?_
    refine lV (yFieldAddr rfl F163_0) rfl rfl ?_
    refine lV (yLoad1 rfl O3 (cOwn 3 rfl rfl)) rfl rfl ?_
    refine lV (yLookupOk MP132 ZV3 rfl rfl (fun w hw => hw.blkAt 0 rfl)) rfl rfl ?_
    refine lV (yMove rfl) rfl rfl ?_
    refine lV (yExtract rfl rfl) rfl rfl ?_
    refine lV (yExtract rfl rfl) rfl rfl ?_
    refine lV (yAssign rfl) rfl rfl ?_
    refine lV (yAssign rfl) rfl rfl ?_
    refine lNil ?_
    refine kThen ?_
    refine kSeq ?_
    refine kSeq ?_
    refine kRegion rfl ?_
    refine lV (yMove rfl) rfl rfl ?_
    refine lV (yNot rfl) rfl rfl ?_
    refine splitB (t := 23) rfl (fun h23 => ?_) (fun h23 => ?_)
    · refine lNil ?_
      refine kThen ?_
      refine kIfT rfl ?_
      refine kExit ?_
      refine kThenX ?_
      refine kInX ?_
      refine kThen ?_
      refine kRegion rfl ?_
      refine lV (yAdd rfl rfl (by omega)) rfl rfl ?_
      refine lV (yMove rfl) rfl rfl ?_
      refine lNil ?_
      exact kRoundX (i + 1, fs, b) (⟨by dsimp only; omega, by dsimp only; rw [stepsP_succ l m (by omega), step_still (relax_none (hfs.none (by simpa using h23)))]; exact ⟨hfs, hb⟩⟩) (by dsimp only; omega) rfl (.c rfl (.c rfl .n)) (.c rfl (.c rfl (.c rfl (.c rfl .n)))) .n
    · obtain ⟨a0, ha0, ha1⟩ := hfs.some (v := (l.getD i lnk0).1) (by simpa using h23)
      have hsa := hsm (by omega) _ _ ha0
      have hlx := hl _ (getD_mem (i := i) (by omega) lnk0)
      refine lNil ?_
      refine kThen ?_
      refine kIfF rfl ?_
      refine kSkip ?_
      refine kThen ?_
      refine kSeq ?_
      refine kRegion rfl ?_
      refine lV (yLoad1 rfl O132 (cOwn 2 rfl rfl)) rfl rfl ?_
      refine lV (yFieldAddr rfl F163_1) rfl rfl ?_
      refine lV (yLoad1 rfl O3 (cOwn 3 rfl rfl)) rfl rfl ?_
      refine lV (yLookupOk MP132 ZV3 rfl rfl (fun w hw => hw.blkAt 0 rfl)) rfl rfl ?_
      refine lV (yMove rfl) rfl rfl ?_
      refine lV (yExtract rfl rfl) rfl rfl ?_
      refine lV (yExtract rfl rfl) rfl rfl ?_
      refine lV (yAssign rfl) rfl rfl ?_
      refine lV (yAssign rfl) rfl rfl ?_
      refine lNil ?_
      refine kThen ?_
      refine kSeq ?_
      refine kRegion rfl ?_
      refine lV (yMove rfl) rfl rfl ?_
      refine lV (yNot rfl) rfl rfl ?_
      refine lV (yMove rfl) rfl rfl ?_
      refine splitB (t := 33) rfl (fun h33 => ?_) (fun h33 => ?_)
      · refine lGN rfl rfl rfl rfl rfl ?_
        refine lGN rfl rfl rfl rfl rfl ?_
        refine lGN rfl rfl rfl rfl rfl ?_
        refine lGN rfl rfl rfl rfl rfl ?_
        refine lGN rfl rfl rfl rfl rfl ?_
        refine lGN rfl rfl rfl rfl rfl ?_
        refine lV (yPickT rfl rfl) rfl rfl ?_
        refine lNil ?_
        refine kThen ?_
        refine kIfT rfl ?_
        refine kRegion rfl ?_
        refine lV (yLoad1 rfl O132 (cOwn 2 rfl rfl)) rfl rfl ?_
        refine lV (yFieldAddr rfl F163_1) rfl rfl ?_
        refine lV (yLoad1 rfl O3 (cOwn 3 rfl rfl)) rfl rfl ?_
        refine lV (yMove rfl) rfl rfl ?_
        refine same (t := 44) (u := i64 a0) rfl (ha1 _) ?_
        refine lV (yFieldAddr rfl F163_2) rfl rfl ?_
        refine lV (yLoad1 rfl O3 (cOwn 3 rfl rfl)) rfl rfl ?_
        refine lV (yAdd rfl rfl (by omega)) rfl rfl ?_
        refine lE rfl ?_
        refine eMapUpdateM 0 MP132 rfl rfl rfl rfl ?_
        refine lV (yAssign rfl) rfl rfl ?_
        refine lNil ?_
        refine kInN ?_
        refine kThen ?_
        refine kRegion rfl ?_
        refine lV (yAdd rfl rfl (by omega)) rfl rfl ?_
        refine lV (yMove rfl) rfl rfl ?_
        refine lNil ?_
        exact kRoundX (i + 1, mPut fs ((l.getD i lnk0).2.1 : Nat) (i64 (a0 + (l.getD i lnk0).2.2)), true) (⟨by dsimp only; omega, by dsimp only; rw [stepsP_succ l m (by omega), step_set ha0 (fun b hb => by rw [hfs.none (by simpa using h33)] at hb; cases hb)]; exact ⟨hfs.put _ _, rfl⟩⟩) (by dsimp only; omega) rfl (.c rfl (.c rfl .n)) (.c rfl (.c rfl (.c rfl (.c rfl .n)))) .n
      · obtain ⟨b0, hb0, hb1⟩ := hfs.some (v := (l.getD i lnk0).2.1) (by simpa using h33)
        refine lGY rfl rfl rfl (oV (yMove rfl) rfl ?_)
        refine same (t := 34) (u := i64 a0) rfl (ha1 _) ?_
        refine lGY rfl rfl rfl (oV (yFieldAddr rfl F163_2) rfl ?_)
        refine lGY rfl rfl rfl (oV (yLoad1 rfl O3 (cOwn 3 rfl rfl)) rfl ?_)
        refine lGY rfl rfl rfl (oV (yAdd rfl rfl (by omega)) rfl ?_)
        refine lGY rfl rfl rfl (oV (yMove rfl) rfl ?_)
        refine same (t := 38) (u := i64 b0) rfl (hb1 _) ?_
        refine lGY rfl rfl rfl (oV (yLss rfl rfl) rfl ?_)
        refine lV (yPickF rfl rfl) rfl rfl ?_
        refine lNil ?_
        refine kThen ?_
        refine split (t := 40) rfl (fun h40 => ?_) (fun h40 => ?_)
        · refine kIfT rfl ?_
          refine kRegion rfl ?_
          refine lV (yLoad1 rfl O132 (cOwn 2 rfl rfl)) rfl rfl ?_
          refine lV (yFieldAddr rfl F163_1) rfl rfl ?_
          refine lV (yLoad1 rfl O3 (cOwn 3 rfl rfl)) rfl rfl ?_
          refine lV (yMove rfl) rfl rfl ?_
          refine same (t := 44) (u := i64 a0) rfl (ha1 _) ?_
          refine lV (yFieldAddr rfl F163_2) rfl rfl ?_
          refine lV (yLoad1 rfl O3 (cOwn 3 rfl rfl)) rfl rfl ?_
          refine lV (yAdd rfl rfl (by omega)) rfl rfl ?_
          refine lE rfl ?_
          refine eMapUpdateM 0 MP132 rfl rfl rfl rfl ?_
          refine lV (yAssign rfl) rfl rfl ?_
          refine lNil ?_
          refine kInN ?_
          refine kThen ?_
          refine kRegion rfl ?_
          refine lV (yAdd rfl rfl (by omega)) rfl rfl ?_
          refine lV (yMove rfl) rfl rfl ?_
          refine lNil ?_
          exact kRoundX (i + 1, mPut fs ((l.getD i lnk0).2.1 : Nat) (i64 (a0 + (l.getD i lnk0).2.2)), true) (⟨by dsimp only; omega, by dsimp only; rw [stepsP_succ l m (by omega), step_set ha0 (fun b hb => by rw [hb0] at hb; cases hb; exact h40)]; exact ⟨hfs.put _ _, rfl⟩⟩) (by dsimp only; omega) rfl (.c rfl (.c rfl .n)) (.c rfl (.c rfl (.c rfl (.c rfl .n)))) .n
        · refine kIfF rfl ?_
          refine kSkip ?_
          refine kInN ?_
          refine kThen ?_
          refine kRegion rfl ?_
          refine lV (yAdd rfl rfl (by omega)) rfl rfl ?_
          refine lV (yMove rfl) rfl rfl ?_
          refine lNil ?_
          exact kRoundX (i + 1, fs, b) (⟨by dsimp only; omega, by dsimp only; rw [stepsP_succ l m (by omega), step_still (relax_keep ha0 hb0 h40)]; exact ⟨hfs, hb⟩⟩) (by dsimp only; omega) rfl (.c rfl (.c rfl .n)) (.c rfl (.c rfl (.c rfl (.c rfl .n)))) .n
  · refine kIfF rfl ?_
    refine kExit ?_
    refine kThenX ?_
    refine kThenX ?_
    refine kInX ?_
    refine kThen ?_
    refine kSeq ?_
    refine kRegion rfl ?_
    refine lV (yMove rfl) rfl rfl ?_
    refine lV (yAssign rfl) rfl rfl ?_
    refine lNil ?_
    refine kThen ?_
    refine kRet ?_
    refine fRet rfl (.t rfl .n) ?_
    obtain rfl : i = l.length := by omega
    rw [stepsP_all] at hfs hb
    exact fun w' hw' => ⟨fs, hfs, by rw [← hb]; rfl, (hw'.sub .n).keepM (M1 := [(q, mapO .i64 fs)]) (M2 := [(nl, blk [.slice a l.length c] 130), (nm, blk [.map (some q)] 132)]) (fun p hp => by
      simp only [List.mem_cons, List.not_mem_nil, or_false] at hp
      rcases hp with rfl | rfl
      · exact h.kl
      · exact h.km)⟩

/-- What comes of going over all links again and again. -/
def FarR (w : World) (s : Nat) (l : List Lnk) : Ending → World → Prop := fun e w' =>
  (∃ m, farP s l = some m ∧ Sml 2000000000 m ∧ RetX w (fun x : Nat × List (Int × Value) => Rep x.2 m) (fun x => .tuple [.map (some x.1), .bool true].toArray) (fun _ => []) (fun x => [(x.1, mapO .i64 x.2)]) e w') ∨ (farP s l = none ∧ Ret w (.tuple [.map none, .bool false].toArray) e w')
theorem rounds_stop {l : List Lnk} {k : Nat} {m : DMap} (h : (narrowP l m).2 = false) : roundsP l (k + 1) m = some (narrowP l m).1 := by
  unfold roundsP; rw [h]; rfl
theorem rounds_more {l : List Lnk} {k : Nat} {m : DMap} (h : (narrowP l m).2 = true) : roundsP l (k + 1) m = roundsP l k (narrowP l m).1 := by
  rw [roundsP, if_pos h]

set_option maxRecDepth 100000 in
set_option maxHeartbeats 4000000 in
theorem far_any (s : Nat) (a : Option Addr) (c : Nat) (l : List Lnk) (w : World) (hs : SlE w a l.length 3 (lnkC l)) (h0 : 0 < l.length) (hn : l.length ≤ 100) (hl : ∀ x ∈ l, -100000 ≤ x.2.2 ∧ x.2.2 ≤ 100000) :
    Calls Try.prog 83 [i64 (s : Nat), .slice a l.length c].toArray w (FarR w s l) := by
  have hlt := SlE.lt hs h0 (by omega)
  refine fEnter Try.func83 rfl Try.ntmps83 rfl ?_
  refine kSeq ?_
  refine kRegion rfl ?_
  refine lE rfl ?_
  refine eBox1 rfl rfl fun n3 => ?_
  refine lE rfl ?_
  refine eAlloc Z132 fun n4 => ?_
  refine lV (yAssign rfl) rfl rfl ?_
  refine lNil ?_
  refine kThen ?_
  refine kSeq ?_
  refine kRegion rfl ?_
  refine lE rfl ?_
  refine eMakeMap (k := .i64) fun n7 => ?_
  refine lV (yMove rfl) rfl rfl ?_
  refine lE rfl ?_
  refine eInsert 0 MP132 rfl rfl rfl rfl ?_
  refine lV (yMove rfl) rfl rfl ?_
  refine lE rfl ?_
  refine eStoreL 1 rfl rfl rfl rfl K132 rfl (rfl) ?_
  refine lNil ?_
  refine kThen ?_
  refine kSeq ?_
  refine kRegion rfl ?_
  refine lV (yMakeFunc .n (.c rfl (.c rfl .n))) rfl rfl ?_
  refine lV (yAssign rfl) rfl rfl ?_
  refine lNil ?_
  refine kThen ?_
  refine kSeq ?_
  refine kSeq ?_
  refine kRegion rfl ?_
  refine lV (yLoad1 rfl O130 (cOwn 2 rfl rfl)) rfl rfl ?_
  refine lV (yLen rfl S130) rfl rfl ?_
  refine lV (yAdd rfl rfl (by omega)) rfl rfl ?_
  refine lV (yMove rfl) rfl rfl ?_
  refine lNil ?_
  refine kThen ?_
  refine kBlock ?_
  refine kLoopX (ι := Nat × List (Int × Value) × DMap) (fun x => x.1 ≤ l.length + 2 ∧ Rep x.2.1 x.2.2 ∧ Sml (10000000 * x.1) x.2.2 ∧ farP s l = roundsP l (l.length + 2 - x.1) x.2.2) (fun x => [(14, i64 (x.1 : Nat))]) [(0, _), (1, _), (3, _), (4, _), (7, _), (8, _), (9, _), (10, _), (6, _), (11, _), (12, _), (13, _)] (fun x => []) (fun x => [(n7, mapO .i64 x.2.1)]) [(n4, _), (n3, _)] (fun x => l.length + 2 - x.1) (0, [((s : Nat), i64 0)], startD s) (⟨Nat.zero_le _, by have := Rep.nil.put s 0; exact this, (fun v d h => by unfold startD at h; dsimp only at h; split at h; (· cases h; simp); cases h), rfl⟩) rfl (.c rfl .n) (.c rfl (.c rfl (.c rfl (.c rfl (.c rfl (.c rfl (.c rfl (.c rfl (.c rfl (.c rfl (.c rfl (.c rfl .n)))))))))))) (.c 1 rfl (.c 1 rfl (.c 0 rfl .n))) ?_
  rintro ⟨k, es, m⟩ ⟨hk, hes, hsm, hfar⟩
  dsimp only at hk hes hsm hfar ⊢
  refine kSeq ?_
  refine kRegion rfl ?_
  refine lV (yLss rfl rfl) rfl rfl ?_
  refine lNil ?_
  refine kThen ?_
  refine kSeq ?_
  refine split (t := 15) rfl (fun h15 => ?_) (fun h15 => ?_)
  · refine kIfT rfl ?_
    refine kSkip ?_
    refine kThen ?_
    refine kSeq ?_
    refine kBlock ?_
    refine kSeq ?_
    refine kRegion rfl ?_
    refine lV (yMove rfl) rfl rfl ?_
    refine lE rfl ?_
    refine eCallWX 2 rfl rfl .n C107 (fun w hw hb => narrow_any n3 n4 n7 a c l es m (10000000 * k) w ⟨hw.blkAt 1 rfl, hw.blkAt 0 rfl, hb, hs.eff0 hw, by have := hw.new (n3, blk [.slice a l.length c] 130) (by simp); simp only at this; omega, by have := hw.new (n4, blk [.map (some n7)] 132) (by simp; rfl); simp only at this; omega, by have := hw.new (n7, mapO .i64 es) (by simp); simp only at this; omega⟩ hes hl (by omega) hsm (by omega)) fun fs hfs => ?_
    refine lV (yNot rfl) rfl rfl ?_
    refine splitB (t := 18) rfl (fun h18 => ?_) (fun h18 => ?_)
    · refine lNil ?_
      refine kThen ?_
      refine kIfT rfl ?_
      refine kSeq ?_
      refine kRegion rfl ?_
      refine lV (yLoad1 rfl O132 (cOwn 0 rfl rfl)) rfl rfl ?_
      refine lE rfl ?_
      refine eStoreL 0 rfl rfl rfl rfl K132 rfl (rfl) ?_
      refine lV (yAssign rfl) rfl rfl ?_
      refine lNil ?_
      refine kThen ?_
      refine kRet ?_
      refine kInR ?_
      refine kThenR ?_
      refine kThenR ?_
      refine kInR ?_
      refine kThenR ?_
      refine fRet rfl (.c1 rfl O132 (cOwn 0 rfl rfl) (.t rfl .n)) ?_
      have hf : farP s l = some (narrowP l m).1 := by
        rw [hfar, show l.length + 2 - k = (l.length + 1 - k) + 1 from by omega]; exact rounds_stop (by simpa using h18)
      exact fun w' hw' => .inl ⟨_, hf, (by rw [← stepsP_all]; exact (hsm.steps hl l.length (Nat.le_refl _)).mono (by omega)), endX (n7, fs) hfs rfl rfl (.c 2 rfl .n) w' hw'⟩
    · refine lNil ?_
      refine kThen ?_
      refine kIfF rfl ?_
      refine kSkip ?_
      refine kInN ?_
      refine kThen ?_
      refine kRegion rfl ?_
      refine lV (yAdd rfl rfl (by omega)) rfl rfl ?_
      refine lV (yMove rfl) rfl rfl ?_
      refine lNil ?_
      exact kRoundX (k + 1, fs, (narrowP l m).1) (⟨by dsimp only; omega, hfs, by dsimp only; rw [← stepsP_all]; exact (hsm.steps hl l.length (Nat.le_refl _)).mono (by omega), by dsimp only; rw [hfar, ← rounds_more (by simpa using h18)]; congr 1; omega⟩) (by dsimp only; omega) rfl (.c rfl .n) (.c rfl (.c rfl (.c rfl (.c rfl (.c rfl (.c rfl (.c rfl (.c rfl (.c rfl (.c rfl (.c rfl (.c rfl .n)))))))))))) (.c 0 rfl (.c 0 rfl (.c 0 rfl .n)))
  · refine kIfF rfl ?_
    refine kExit ?_
    refine kThenX ?_
    refine kThenX ?_
    refine kInX ?_
    refine kThen ?_
    refine kSeq ?_
    refine kRegion rfl ?_
    refine lE rfl ?_
    refine eStoreL 0 rfl rfl rfl rfl K132 rfl (rfl) ?_
    refine lV (yAssign rfl) rfl rfl ?_
    refine lNil ?_
    refine kThen ?_
    refine kRet ?_
    refine fRet rfl (.c1 rfl O132 (cOwn 0 rfl rfl) (.t rfl .n)) ?_
    have hf : farP s l = none := by
      rw [hfar, show l.length + 2 - k = 0 from by omega]; rfl
    exact fun w' hw' => .inr ⟨hf, endRet rfl w' hw'⟩
theorem far_yes {s : Nat} {a : Option Addr} {c : Nat} {l : List Lnk} {w : World} (hs : SlE w a l.length 3 (lnkC l)) (h0 : 0 < l.length) (hn : l.length ≤ 100) (hl : ∀ x ∈ l, -100000 ≤ x.2.2 ∧ x.2.2 ≤ 100000) {m : DMap} (hm : farP s l = some m) :
    Calls Try.prog 83 [i64 (s : Nat), .slice a l.length c].toArray w (RetX w (fun x : Nat × List (Int × Value) => Rep x.2 m ∧ Sml 2000000000 m) (fun x => .tuple [.map (some x.1), .bool true].toArray) (fun _ => []) (fun x => [(x.1, mapO .i64 x.2)])) :=
  (far_any s a c l w hs h0 hn hl).mono fun _ _ h => by
    rcases h with ⟨n, h1, h2, x, h3, h4, h5⟩ | ⟨h1, _⟩
    · rw [hm] at h1; cases h1; exact ⟨x, ⟨h3, h2⟩, h4, h5⟩
    · rw [hm] at h1; cases h1
theorem far_not {s : Nat} {a : Option Addr} {c : Nat} {l : List Lnk} {w : World} (hs : SlE w a l.length 3 (lnkC l)) (h0 : 0 < l.length) (hn : l.length ≤ 100) (hl : ∀ x ∈ l, -100000 ≤ x.2.2 ∧ x.2.2 ≤ 100000) (hm : farP s l = none) :
    Calls Try.prog 83 [i64 (s : Nat), .slice a l.length c].toArray w (Ret w (.tuple [.map none, .bool false].toArray)) :=
  (far_any s a c l w hs h0 hn hl).mono fun _ _ h => by
    rcases h with ⟨n, h1, _⟩ | ⟨_, h2⟩
    · rw [hm] at h1; cases h1
    · exact h2
end Go.Proofs.Ytiaaidcdoenloaa
