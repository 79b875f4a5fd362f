/-
  Walk: the document's bounds of a watch.
-/
import Derived.Test.YtiaaidcdoenloaaQl
import Derived.Test.YtiaaidcdoenloaaTf
namespace Go.Proofs.Ytiaaidcdoenloaa
open ZW

abbrev farF : Int := 1073741824
def mat0 : FMat := fun i k => if i = k then 0 else farF
theorem row0 {N i : Nat} (_ : i < N) : rowOf N mat0 i = (List.replicate N (i64 farF)).set i (i64 0) := by
  refine List.ext_getElem (by simp [rowOf]) fun n h1 h2 => ?_
  simp only [rowOf, List.getElem_map, List.getElem_range, List.getElem_set, List.getElem_replicate, mat0]
  by_cases h : i = n
  · rw [if_pos h, if_pos h]
  · rw [if_neg h, if_neg h]
theorem rowsH_snoc (r : List Own) (g : Own) : rowsH (r ++ [g]) = rowsH r ++ osL 3 g := by unfold rowsH; simp
theorem subNil2 (A : Heap) : SubP (A ++ []) A := by rw [List.append_nil]; exact .r
theorem subAsc {A B C H : Heap} (h : SubP (A ++ (B ++ C)) H) : SubP ((A ++ B) ++ C) H := by rw [List.append_assoc]; exact h
/-- The first rows. -/
structure PartP (N i : Nat) (gb : Own) (rs : MRows) : Prop where
  len : rs.r.length = i
  os : OV gb (rs.r.map fun g => osV g N)
  row : ∀ j, j < i → OV (rs.at j) (rowOf N mat0 j)
theorem PartP.snoc {N i : Nat} {gb h' g' : Own} {rs : MRows} (h : PartP N i gb rs) (hh : OS 1 h' (((rs.r.map fun g => osV g N).map fun v => [v]) ++ [[osV g' N]])) (hg : OV g' (rowOf N mat0 i)) : PartP N (i + 1) h' ⟨rs.r ++ [g']⟩ := by
  refine ⟨by simp [h.len], by show OS 1 h' (((rs.r ++ [g']).map fun g => osV g N).map fun v => [v]); rw [List.map_append, List.map_append]; exact hh, fun j hj => ?_⟩
  unfold MRows.at
  rcases Nat.lt_or_ge j i with h1 | h1
  · have e : (rs.r ++ [g']).getD j own0 = rs.at j := by
      unfold MRows.at
      rw [List.getD_eq_getElem?_getD, List.getD_eq_getElem?_getD, List.getElem?_append_left (by rw [h.len]; exact h1)]
    show OV ((rs.r ++ [g']).getD j own0) _
    rw [e]; exact h.row j h1
  · obtain rfl : j = i := by omega
    have e : (rs.r ++ [g']).getD j own0 = g' := by simp [List.getD, ← h.len]
    show OV ((rs.r ++ [g']).getD j own0) _
    rw [e]; exact hg
theorem PartP.mat {N : Nat} {gb : Own} {rs : MRows} (h : PartP N N gb rs) : MatP N gb rs mat0 := ⟨h.len, h.os, h.row⟩
theorem repE {g : Own} {N : Nat} {v : Value} {e : TypeId} {W w : World} {M L : Heap} (h : OV g (List.replicate N v)) (hw : Eff W M L w) (hs : SubP (osL e g) L) : SlE w (osA g) N 1 (fun j => [(List.replicate N v).getD j (.int .i64 0)]) := by
  have := h.sle hw hs
  rwa [List.length_replicate] at this
theorem OV.same {g : Own} {us vs : List Value} (h : OV g us) (k : OV g vs) (hl : us.length = vs.length) : us = vs := by
  have a := h.at_
  have b := k.at_
  cases g with
  | e _ =>
    simp only [List.map_eq_nil_iff] at a b
    rw [a, b]
  | b n c l =>
    simp only [List.length_map, Nat.mul_one, flat1] at a b
    obtain ⟨_, _, _, h4⟩ := a
    obtain ⟨_, _, _, k4⟩ := b
    rw [← h4, ← k4, hl]
/-- The slices of rows are told by the slice that holds them. -/
theorem matHd {N : Nat} {gb : Own} {rs rt : MRows} {b c : FMat} (h : MatP N gb rs b) (k : MatP N gb rt c) {j : Nat} (hj : j < N) : osV (rt.at j) N = osV (rs.at j) N := by
  have e := OV.same h.os k.os (by simp [h.len, k.len])
  have h1 : j < rs.r.length := by rw [h.len]; exact hj
  have h2 : j < rt.r.length := by rw [k.len]; exact hj
  have e2 : (rs.r.map fun g => osV g N)[j]? = (rt.r.map fun g => osV g N)[j]? := by rw [e]
  rw [List.getElem?_map, List.getElem?_map, List.getElem?_eq_getElem h1, List.getElem?_eq_getElem h2] at e2
  unfold MRows.at
  rw [← List.getElem_eq_getD (h := h1), ← List.getElem_eq_getD (h := h2)]
  simpa using e2.symm
theorem matBH {N : Nat} {gb : Own} {rs rt : MRows} {b c : FMat} {W w : World} {M L : Heap} (h : MatP N gb rs b) (k : MatP N gb rt c) (hw : Eff W M L w) (hs : SubP (osL 41 gb) L) : SlE w (osA gb) N 1 (fun j => [osV (rs.at j) N]) :=
  (matB k hw hs).congr rfl fun j hj => by rw [matHd h k hj]
/-- Bounds with links put in. -/
def bndM (l : List Lnk) (b : FMat) : FMat := l.foldl (fun b x => fUpd b x.1 x.2.1 (min (b x.1 x.2.1) x.2.2)) b
theorem bnd_app (l m : List Lnk) (b : FMat) : bndM (l ++ m) b = bndM m (bndM l b) := by unfold bndM; rw [List.foldl_append]
theorem bnd_tie (i k : Nat) (s : Int × Int) (b : FMat) : bndM (tieP i k s) b = fUpd (fUpd b i k (min (b i k) s.2)) k i (min (fUpd b i k (min (b i k) s.2) k i) (-s.1)) := rfl
theorem bnd_bd {A : Int} (hA : 0 ≤ A) (N : Nat) : ∀ (l : List Lnk) (b : FMat), (∀ x ∈ l, -A ≤ x.2.2) → FBd farF N A b → FBd farF N A (bndM l b)
  | [], _, _, h => h
  | x :: l, b, hl, h => by
    refine bnd_bd hA N l _ (fun y hy => hl y (List.mem_cons_of_mem _ hy)) fun i k hi hk => ?_
    have h1 := h i k hi hk
    have h2 := hl x (List.mem_cons_self ..)
    show -A ≤ fUpd b x.1 x.2.1 (min (b x.1 x.2.1) x.2.2) i k ∧ fUpd b x.1 x.2.1 (min (b x.1 x.2.1) x.2.2) i k ≤ farF
    unfold fUpd
    split
    · rename_i he; obtain ⟨rfl, rfl⟩ := he; omega
    · exact h1
theorem mat0_bd (N : Nat) : FBd farF N 100000 mat0 := fun i k _ _ => by have hf : farF = 1073741824 := rfl; unfold mat0; split <;> omega
theorem six_le {j : Nat} (h : j ≤ 10) : (6 : Int) ^ j ≤ 60466176 ∧ 0 < (6 : Int) ^ j := by
  have h1 : 6 ^ j ≤ 6 ^ 10 := Nat.pow_le_pow_right (by omega) h
  have h2 : 0 < 6 ^ j := Nat.pow_pos (by omega)
  have h3 : ((6 ^ j : Nat) : Int) = (6 : Int) ^ j := by simp
  omega
theorem mid_bd {N j i k : Nat} {B : FMat} (hB : FBd farF N 100000 B) (hN : N ≤ 11) (hj : j < N) (hi : i < N) (hk : k ≤ N) {x y : Nat} (hx : x < N) (hy : y < N) :
    -100000000000000 ≤ fRow farF j (fRound farF N (fClose farF N B j) j i) i k x y ∧ fRow farF j (fRound farF N (fClose farF N B j) j i) i k x y ≤ farF := by
  have h6 := six_le (j := j) (by omega)
  have h0 : (0 : Int) ≤ 6 ^ j * 100000 := by omega
  have h1 := FBd.closeP (by omega) hB j (by omega)
  have h2 := (FRn.roundP (j := j) h0 hj h1 i (by omega)).rowP h0 hj hi k hk
  have := h2.all x y hx hy
  omega

def cntN (X : Wat) : Nat := 1 + X.eyes.toNat + X.images.toNat
def rawM (X : Wat) (S E : Nat) : FMat := bndM (linksP X S E) mat0
def refM (X : Wat) (S E : Nat) : FMat := fClose farF (cntN X) (rawM X S E) (cntN X)
/-- What comes of the document's bounds. -/
def OfR (w : World) (X : Wat) (S E : Nat) : Ending → World → Prop := fun e w' =>
  (fDiag (cntN X) (refM X S E) ∧ RetX w (fun x : Own × MRows => MatP (cntN X) x.1 x.2 (refM X S E)) (fun x => .tuple [osV x.1 (cntN X), .bool true].toArray) (fun _ => []) (fun x => osL 41 x.1 ++ x.2.H) e w') ∨
  (¬ fDiag (cntN X) (refM X S E) ∧ Ret w (.tuple [.slice none 0 0, .bool false].toArray) e w')

set_option maxRecDepth 100000 in
set_option maxHeartbeats 1000000 in
theorem of_any (y : WLoc) (X : Wat) (S E : Nat) (w : World) (hm : InW w y X) (hM : WatOk X) (hS : S < 2 ^ 60) (hE : E < 2 ^ 60) :
    Calls Try.prog 63 [.agg (watC y X).toArray, i64 (S : Nat), i64 (E : Nat)].toArray w (OfR w X S E) := by
  have hN12 := hM.n
  have hI := hM.i
  have hEy := hM.e
  have hh := hM.h
  have hk2 := hM.k
  have hsn := hM.s.n
  have hsn : 1 ≤ X.errs.length ∧ X.errs.length ≤ 40 := hsn
  obtain ⟨e, he⟩ : ∃ e : Nat, X.eyes.toNat = e := ⟨_, rfl⟩
  have he' : X.eyes = (e : Nat) := by omega
  obtain ⟨N, hN⟩ : ∃ N : Nat, cntN X = N := ⟨_, rfl⟩
  have hNv : (N : Int) = 1 + X.eyes + X.images := by rw [← hN]; unfold cntN; omega
  have hN11 : N ≤ 11 := by omega
  have hNe : 1 + e < N := by omega
  refine fEnter Try.func63 rfl Try.ntmps63 rfl ?_
  refine kSeq ?_
  refine kRegion rfl ?_
  refine lE rfl ?_
  refine eBoxA rfl fun n3 => ?_
  refine lV (yAssign rfl) rfl rfl ?_
  refine lV (yAssign rfl) rfl rfl ?_
  refine lNil ?_
  refine kThen ?_
  refine kSeq ?_
  refine kRegion rfl ?_
  refine lV (yFieldAddr rfl F29_2) rfl rfl ?_
  refine lV (yLoad1 rfl O3 (cOwn 0 rfl rfl)) rfl rfl ?_
  refine lV (yAdd rfl rfl (by omega)) rfl rfl ?_
  refine lV (yFieldAddr rfl F29_1) rfl rfl ?_
  refine lV (yLoad1 rfl O3 (cOwn 0 rfl rfl)) rfl rfl ?_
  refine lV (yAdd rfl rfl (by omega)) rfl rfl ?_
  refine same (t := 28) (u := i64 ((N : Nat) : Int)) rfl (congrArg i64 (by omega)) ?_
  refine lV (yAssign rfl) rfl rfl ?_
  refine lNil ?_
  refine kThen ?_
  refine kSeq ?_
  refine kRegion rfl ?_
  refine lV (yAssign rfl) rfl rfl ?_
  refine lNil ?_
  refine kThen ?_
  refine kSeq ?_
  refine kSeq ?_
  refine kRegion rfl ?_
  refine lV (yAssign rfl) rfl rfl ?_
  refine lNil ?_
  refine kThen ?_
  refine kBlock ?_
  refine kLoopX (ι := Nat × Own × MRows) (fun x => x.1 ≤ N ∧ PartP N x.1 x.2.1 x.2.2) (fun x => [(10, i64 (x.1 : Nat)), (9, osV x.2.1 ((x.2.2.r.map fun g => osV g N).map fun v => [v]).length)]) [(0, _), (1, _), (2, _), (3, _), (6, _), (7, _), (23, _), (24, _), (25, _), (26, _), (27, _), (28, _), (8, _)] (fun x => []) (fun x => (osL 41 x.2.1 ++ x.2.2.H)) [(n3, _)] (fun x => N - x.1) (0, .e none, ⟨[]⟩) (⟨Nat.zero_le _, rfl, OS.empty, fun j hj => absurd hj (by dsimp only; omega)⟩) rfl (.c rfl (.c rfl .n)) (.c rfl (.c rfl (.c rfl (.c rfl (.c rfl (.c rfl (.c rfl (.c rfl (.c rfl (.c rfl (.c rfl (.c rfl (.c rfl .n))))))))))))) (.c 0 rfl .n) ?_
  rintro ⟨i, gb, rs⟩ ⟨hi, hp⟩
  dsimp only at hi hp ⊢
  refine kSeq ?_
  refine kSeq ?_
  refine kRegion rfl ?_
  refine lV (yMove rfl) rfl rfl ?_
  refine lV (yMove rfl) rfl rfl ?_
  refine lV (yLss rfl rfl) rfl rfl ?_
  refine lNil ?_
  refine kThen ?_
  refine split (t := 31) rfl (fun h31 => ?_) (fun h31 => ?_)
  · refine kIfT rfl ?_
    refine kSkip ?_
    refine kThen ?_
    refine kSeq ?_
    refine kBlock ?_
    refine kSeq ?_
    refine kRegion rfl ?_
    refine lV (yAssign rfl) rfl rfl ?_
    refine lNil ?_
    refine kThen ?_
    refine kSeq ?_
    refine kSeq ?_
    refine kRegion rfl ?_
    refine lV (yAssign rfl) rfl rfl ?_
    refine lNil ?_
    refine kThen ?_
    refine kBlock ?_
    refine kLoopX (ι := Nat × Own) (fun x => x.1 ≤ N ∧ OV x.2 (List.replicate x.1 (i64 farF))) (fun x => [(12, i64 (x.1 : Nat)), (11, osV x.2 ((List.replicate x.1 (i64 farF)).map fun v => [v]).length)]) [(0, _), (1, _), (2, _), (3, _), (6, _), (7, _), (23, _), (24, _), (25, _), (26, _), (27, _), (28, _), (8, _), (10, _), (9, _), (29, _), (30, _), (31, _)] (fun x => []) (fun x => ((osL 41 gb ++ rs.H) ++ osL 3 x.2)) [(n3, _)] (fun x => N - x.1) (0, .e none) (⟨Nat.zero_le _, OS.empty⟩) rfl (.c rfl (.c rfl .n)) (.c rfl (.c rfl (.c rfl (.c rfl (.c rfl (.c rfl (.c rfl (.c rfl (.c rfl (.c rfl (.c rfl (.c rfl (.c rfl (.c rfl (.c rfl (.c rfl (.c rfl (.c rfl .n)))))))))))))))))) (.c 0 rfl (subNil2 (osL 41 gb ++ rs.H))) ?_
    rintro ⟨k, g⟩ ⟨hk, hg⟩
    dsimp only at hk hg ⊢
    refine kSeq ?_
    refine kSeq ?_
    refine kRegion rfl ?_
    refine lV (yMove rfl) rfl rfl ?_
    refine lV (yMove rfl) rfl rfl ?_
    refine lV (yLss rfl rfl) rfl rfl ?_
    refine lNil ?_
    refine kThen ?_
    refine split (t := 36) rfl (fun h36 => ?_) (fun h36 => ?_)
    · refine kIfT rfl ?_
      refine kSkip ?_
      refine kThen ?_
      refine kSeq ?_
      refine kBlock ?_
      refine kRegion rfl ?_
      refine lV (yMove rfl) rfl rfl ?_
      refine lE rfl ?_
      refine eBuildSlice (.c rfl .n) (fun w => BS41_1_0 w) fun n40 => ?_
      refine lE rfl ?_
      refine eAppend (gs := g) ([(n40, _), (n3, _)] ++ (osL 41 gb ++ rs.H)) [[i64 farF]] AP41 rfl rfl .r hg rfl (by simp) (SlN.own 0 rfl rfl) (by simp; rfl) (by simp; omega) (by simp; omega) fun h2 hh2 => ?_
      refine same (t := 41) (u := osV h2 ((List.replicate (k + 1) (i64 farF)).map fun v => [v]).length) rfl (by simp) ?_
      refine lV (yAssign rfl) rfl rfl ?_
      refine lNil ?_
      refine kInN ?_
      refine kThen ?_
      refine kRegion rfl ?_
      refine lV (yMove rfl) rfl rfl ?_
      refine lV (yAdd rfl rfl (by omega)) rfl rfl ?_
      refine lV (yAssign rfl) rfl rfl ?_
      refine lNil ?_
      exact kRoundX (k + 1, h2) (⟨by dsimp only; omega, by dsimp only; show OS 1 h2 ((List.replicate (k + 1) (i64 farF)).map fun v => [v]); rw [List.replicate_succ', List.map_append]; exact hh2⟩) (by dsimp only; omega) rfl (.c rfl (.c rfl .n)) (.c rfl (.c rfl (.c rfl (.c rfl (.c rfl (.c rfl (.c rfl (.c rfl (.c rfl (.c rfl (.c rfl (.c rfl (.c rfl (.c rfl (.c rfl (.c rfl (.c rfl (.c rfl .n)))))))))))))))))) (.c 1 rfl (.d 0 .r))
    · refine kIfF rfl ?_
      refine kExit ?_
      refine kThenX ?_
      refine kThenX ?_
      refine kInX ?_
      refine kThen ?_
      refine kSeq ?_
      obtain rfl : k = N := by omega
      rw [show ((List.replicate k (i64 farF)).map fun v => [v]).length = k from by simp]
      refine kRegion rfl ?_
      refine lV (yMove rfl) rfl rfl ?_
      refine lV (yMove rfl) rfl rfl ?_
      refine lV (yIndexS  rfl rfl S41 (fun w hw => repE hg (hw.sub (.d 0 .r)) SubP.tail) ((by omega))) rfl rfl ?_
      refine lE rfl ?_
      refine eStoreEnd (e := 3) (X := [(n3, blk (watC y X) 29)] ++ (osL 41 gb ++ rs.H)) (gs := g) (vs := List.replicate k (i64 farF)) (k := i) (v := 0) rfl rfl rfl K3 hg (by simp; omega) ?_
      obtain ⟨g', hge⟩ : ∃ g', ownSet g i (i64 0) = g' := ⟨_, rfl⟩
      have hg' : OV g' (rowOf k mat0 i) := by rw [row0 (by omega), ← hge]; exact hg.set _
      have hgv : osV g k = osV g' k := by rw [← hge]; simp only [osV, ownSet_A, ownSet_C]
      rw [hge, hgv]
      refine lNil ?_
      refine kThen ?_
      refine kRegion rfl ?_
      refine lV (yMove rfl) rfl rfl ?_
      refine lV (yMove rfl) rfl rfl ?_
      refine lE rfl ?_
      refine eBuildSlice (.c rfl .n) (fun w => BS86_1_0 w) fun n47 => ?_
      refine lE rfl ?_
      refine eAppend (gs := gb) ([(n47, blk [osV g' k] 41), (n3, blk (watC y X) 29)] ++ (rs.H ++ osL 3 g')) [[osV g' k]] AP86 rfl rfl (SubP.app (SubP.rot (osL 41 gb) rs.H (osL 3 g')) [(n47, _), (n3, _)]) hp.os rfl (by simp) (SlN.own 0 rfl rfl) (by simp; rfl) (by simp [hp.len]; omega) (by simp [hp.len]; omega) fun h hh => ?_
      refine same (t := 48) (u := osV h ((((rs.r ++ [g']).map fun g => osV g k).map fun v => [v])).length) rfl (by simp) ?_
      refine lV (yAssign rfl) rfl rfl ?_
      refine lNil ?_
      refine kInN ?_
      refine kThen ?_
      refine kRegion rfl ?_
      refine lV (yMove rfl) rfl rfl ?_
      refine lV (yAdd rfl rfl (by omega)) rfl rfl ?_
      refine lV (yAssign rfl) rfl rfl ?_
      refine lNil ?_
      rw [← rowsH_snoc]
      exact kRoundX (i + 1, h, ⟨rs.r ++ [g']⟩) (⟨by dsimp only; omega, hp.snoc hh hg'⟩) (by dsimp only; omega) rfl (.c rfl (.c rfl .n)) (.c rfl (.c rfl (.c rfl (.c rfl (.c rfl (.c rfl (.c rfl (.c rfl (.c rfl (.c rfl (.c rfl (.c rfl (.c rfl .n))))))))))))) (.c 1 rfl (.d 0 (SubP.comm (osL 41 h) (rowsH (rs.r ++ [g'])))))
  · refine kIfF rfl ?_
    refine kExit ?_
    refine kThenX ?_
    refine kThenX ?_
    refine kInX ?_
    refine kThen ?_
    refine kSeq ?_
    refine kSeq ?_
    obtain rfl : i = N := by omega
    have hm0 := hp.mat
    rw [show ((rs.r.map fun g => osV g i).map fun v => [v]).length = i from by simp [hp.len]]
    refine kRegion rfl ?_
    refine lV (yAssign rfl) rfl rfl ?_
    refine lNil ?_
    refine kThen ?_
    refine kBlock ?_
    refine kLoopX (ι := Nat × MRows) (fun x => x.1 ≤ e ∧ MatP i gb x.2 (bndM (habs X E x.1) mat0)) (fun x => [(13, i64 (x.1 : Nat))]) [(0, _), (1, _), (2, _), (3, _), (6, _), (7, _), (23, _), (24, _), (25, _), (26, _), (27, _), (28, _), (8, _), (10, _), (9, _), (29, _), (30, _), (31, _)] (fun x => []) (fun x => (osL 41 gb ++ x.2.H)) [(n3, _)] (fun x => e - x.1) (0, rs) (⟨Nat.zero_le _, hm0⟩) rfl (.c rfl .n) (.c rfl (.c rfl (.c rfl (.c rfl (.c rfl (.c rfl (.c rfl (.c rfl (.c rfl (.c rfl (.c rfl (.c rfl (.c rfl (.c rfl (.c rfl (.c rfl (.c rfl (.c rfl .n)))))))))))))))))) (.c 0 rfl .r) ?_
    rintro ⟨m, rs⟩ ⟨hme, hmat⟩
    dsimp only at hme hmat ⊢
    refine kSeq ?_
    refine kSeq ?_
    refine kRegion rfl ?_
    refine lV (yMove rfl) rfl rfl ?_
    refine lV (yFieldAddr rfl F29_2) rfl rfl ?_
    refine lV (yLoad1 rfl O3 (cOwn 0 rfl rfl)) rfl rfl ?_
    refine same (t := 51) (u := i64 ((e : Nat) : Int)) rfl (by rw [he']) ?_
    refine lV (yLss rfl rfl) rfl rfl ?_
    refine lNil ?_
    refine kThen ?_
    refine split (t := 52) rfl (fun h52 => ?_) (fun h52 => ?_)
    · refine kIfT rfl ?_
      refine kSkip ?_
      refine kThen ?_
      refine kSeq ?_
      refine kBlock ?_
      refine kSeq ?_
      refine kRegion rfl ?_
      refine lV (yBuild .n (fun w => B24_ w)) rfl rfl ?_
      refine lE rfl ?_
      refine eAlloc Z24 fun n14 => ?_
      refine lE rfl ?_
      refine eStoreL 0 rfl rfl rfl rfl K24 rfl (rfl) ?_
      refine lNil ?_
      refine kThen ?_
      refine kSeq ?_
      refine kSeq ?_
      refine kRegion rfl ?_
      refine lV (yMove rfl) rfl rfl ?_
      refine lV (yMove rfl) rfl rfl ?_
      refine lV (yCall rfl (.c rfl (.c rfl .n)) C86 (fun w hw => rhas_any E m w hE (by omega))) rfl rfl ?_
      refine lNil ?_
      refine kThen ?_
      refine splitB (t := 58) rfl (fun h58 => ?_) (fun h58 => ?_)
      · refine kIfT rfl ?_
        refine kRegion rfl ?_
        refine lV (yFieldAddr rfl F29_3) rfl rfl ?_
        refine lV (yLoadA (vs := [_, _]) rfl A24 (cOwn 1 rfl rfl)) rfl rfl ?_
        refine lE rfl ?_
        refine eStoreL 0 rfl rfl rfl rfl K24 rfl (rfl) ?_
        refine lNil ?_
        refine kThen ?_
        refine kSeq ?_
        obtain ⟨s, hab, hs⟩ : ∃ s, habOf X E m = s ∧ X.habit = s := ⟨_, rfl, (habOf_bit h58).symm⟩
        have hs1 : -200 ≤ s.1 ∧ s.1 ≤ 0 := by rw [← hs]; exact hh
        refine kRegion rfl ?_
        refine lV (yMove rfl) rfl rfl ?_
        refine lV (yMove rfl) rfl rfl ?_
        refine lV (yAdd rfl rfl (by omega)) rfl rfl ?_
        refine same (t := 63) (u := i64 ((1 + m : Nat) : Int)) rfl (congrArg i64 (by omega)) ?_
        refine lV (yFieldAddr rfl F24_1) rfl rfl ?_
        refine lV (yLoad1 rfl O3 (cOwn 0 rfl rfl)) rfl rfl ?_
        refine same (t := 65) (u := i64 s.2) rfl (by rw [← hs]) ?_
        refine lE rfl ?_
        refine eCallE rfl (.c rfl (.c rfl (.c rfl (.c rfl .n)))) C87 (fun w hw => bound_any [(n14, _), (n3, _)] gb rs i (bndM (habs X E m) mat0) 0 (1 + m) s.2 _ w (hw.sub (subAsc .r)) hmat (by omega) (by omega)) fun r1 h1 => ?_
        refine lNil ?_
        refine kThen ?_
        refine kRegion rfl ?_
        refine lV (yMove rfl) rfl rfl ?_
        refine lV (yMove rfl) rfl rfl ?_
        refine lV (yAdd rfl rfl (by omega)) rfl rfl ?_
        refine same (t := 69) (u := i64 ((1 + m : Nat) : Int)) rfl (congrArg i64 (by omega)) ?_
        refine lV (yFieldAddr rfl F24_0) rfl rfl ?_
        refine lV (yLoad1 rfl O3 (cOwn 0 rfl rfl)) rfl rfl ?_
        refine same (t := 71) (u := i64 s.1) rfl (by rw [← hs]) ?_
        refine lV (yNeg rfl (by omega)) rfl rfl ?_
        refine lE rfl ?_
        refine eCallE rfl (.c rfl (.c rfl (.c rfl (.c rfl .n)))) C87 (fun w hw => bound_any [(n14, _), (n3, _)] gb r1 i _ (1 + m) 0 (-s.1) _ w (hw.sub .r) h1 (by omega) (by omega)) fun r2 h2 => ?_
        refine lNil ?_
        refine kInN ?_
        refine kThen ?_
        refine kRegion rfl ?_
        refine lV (yMove rfl) rfl rfl ?_
        refine lV (yAdd rfl rfl (by omega)) rfl rfl ?_
        refine lV (yAssign rfl) rfl rfl ?_
        refine lNil ?_
        exact kRoundX (m + 1, r2) (⟨by dsimp only; omega, by dsimp only; rw [habs_succ, bnd_app, bnd_tie, hab]; exact h2⟩) (by dsimp only; omega) rfl (.c rfl .n) (.c rfl (.c rfl (.c rfl (.c rfl (.c rfl (.c rfl (.c rfl (.c rfl (.c rfl (.c rfl (.c rfl (.c rfl (.c rfl (.c rfl (.c rfl (.c rfl (.c rfl (.c rfl .n)))))))))))))))))) (.c 1 rfl (.d 0 .r))
      · refine kIfF rfl ?_
        refine kSkip ?_
        refine kThen ?_
        refine kSeq ?_
        obtain ⟨s, hab, hs⟩ : ∃ s, habOf X E m = s ∧ s = ((0 : Int), (0 : Int)) := ⟨_, rfl, habOf_no (by rw [h58]; decide)⟩
        have hs1 : -200 ≤ s.1 ∧ s.1 ≤ 0 := by rw [hs]; decide
        refine kRegion rfl ?_
        refine lV (yMove rfl) rfl rfl ?_
        refine lV (yMove rfl) rfl rfl ?_
        refine lV (yAdd rfl rfl (by omega)) rfl rfl ?_
        refine same (t := 63) (u := i64 ((1 + m : Nat) : Int)) rfl (congrArg i64 (by omega)) ?_
        refine lV (yFieldAddr rfl F24_1) rfl rfl ?_
        refine lV (yLoad1 rfl O3 (cOwn 0 rfl rfl)) rfl rfl ?_
        refine same (t := 65) (u := i64 s.2) rfl (by rw [hs]) ?_
        refine lE rfl ?_
        refine eCallE rfl (.c rfl (.c rfl (.c rfl (.c rfl .n)))) C87 (fun w hw => bound_any [(n14, _), (n3, _)] gb rs i (bndM (habs X E m) mat0) 0 (1 + m) s.2 _ w (hw.sub (subAsc .r)) hmat (by omega) (by omega)) fun r1 h1 => ?_
        refine lNil ?_
        refine kThen ?_
        refine kRegion rfl ?_
        refine lV (yMove rfl) rfl rfl ?_
        refine lV (yMove rfl) rfl rfl ?_
        refine lV (yAdd rfl rfl (by omega)) rfl rfl ?_
        refine same (t := 69) (u := i64 ((1 + m : Nat) : Int)) rfl (congrArg i64 (by omega)) ?_
        refine lV (yFieldAddr rfl F24_0) rfl rfl ?_
        refine lV (yLoad1 rfl O3 (cOwn 0 rfl rfl)) rfl rfl ?_
        refine same (t := 71) (u := i64 s.1) rfl (by rw [hs]) ?_
        refine lV (yNeg rfl (by omega)) rfl rfl ?_
        refine lE rfl ?_
        refine eCallE rfl (.c rfl (.c rfl (.c rfl (.c rfl .n)))) C87 (fun w hw => bound_any [(n14, _), (n3, _)] gb r1 i _ (1 + m) 0 (-s.1) _ w (hw.sub .r) h1 (by omega) (by omega)) fun r2 h2 => ?_
        refine lNil ?_
        refine kInN ?_
        refine kThen ?_
        refine kRegion rfl ?_
        refine lV (yMove rfl) rfl rfl ?_
        refine lV (yAdd rfl rfl (by omega)) rfl rfl ?_
        refine lV (yAssign rfl) rfl rfl ?_
        refine lNil ?_
        exact kRoundX (m + 1, r2) (⟨by dsimp only; omega, by dsimp only; rw [habs_succ, bnd_app, bnd_tie, hab]; exact h2⟩) (by dsimp only; omega) rfl (.c rfl .n) (.c rfl (.c rfl (.c rfl (.c rfl (.c rfl (.c rfl (.c rfl (.c rfl (.c rfl (.c rfl (.c rfl (.c rfl (.c rfl (.c rfl (.c rfl (.c rfl (.c rfl (.c rfl .n)))))))))))))))))) (.c 1 rfl (.d 0 .r))
    · refine kIfF rfl ?_
      refine kExit ?_
      refine kThenX ?_
      refine kThenX ?_
      refine kInX ?_
      refine kThen ?_
      refine kSeq ?_
      refine kSeq ?_
      obtain rfl : m = e := by omega
      have hmat : MatP i gb rs (bndM (habs X E m ++ loks X S 0) mat0) := by simpa [loks] using hmat
      refine kRegion rfl ?_
      refine lV (yAssign rfl) rfl rfl ?_
      refine lNil ?_
      refine kThen ?_
      refine kBlock ?_
      refine kLoopX (ι := Nat × MRows) (fun x => x.1 ≤ X.looks.length ∧ MatP i gb x.2 (bndM (habs X E m ++ loks X S x.1) mat0)) (fun x => [(15, i64 (x.1 : Nat))]) [(0, _), (1, _), (2, _), (3, _), (6, _), (7, _), (23, _), (24, _), (25, _), (26, _), (27, _), (28, _), (8, _), (10, _), (9, _), (29, _), (30, _), (31, _), (13, _), (49, _), (50, _), (51, _), (52, _)] (fun x => []) (fun x => (osL 41 gb ++ x.2.H)) [(n3, _)] (fun x => X.looks.length - x.1) (0, rs) (⟨Nat.zero_le _, hmat⟩) rfl (.c rfl .n) (.c rfl (.c rfl (.c rfl (.c rfl (.c rfl (.c rfl (.c rfl (.c rfl (.c rfl (.c rfl (.c rfl (.c rfl (.c rfl (.c rfl (.c rfl (.c rfl (.c rfl (.c rfl (.c rfl (.c rfl (.c rfl (.c rfl (.c rfl .n))))))))))))))))))))))) (.c 0 rfl .r) ?_
      rintro ⟨q, rs⟩ ⟨hq, hmat⟩
      dsimp only at hq hmat ⊢
      refine kSeq ?_
      refine kSeq ?_
      refine kRegion rfl ?_
      refine lV (yMove rfl) rfl rfl ?_
      refine lV (yFieldAddr rfl F29_4) rfl rfl ?_
      refine lV (yLoad1 rfl O27 (cOwn 0 rfl rfl)) rfl rfl ?_
      refine lV (yLen rfl S27) rfl rfl ?_
      refine lV (yLss rfl rfl) rfl rfl ?_
      refine lNil ?_
      refine kThen ?_
      refine split (t := 78) rfl (fun h78 => ?_) (fun h78 => ?_)
      · refine kIfT rfl ?_
        refine kSkip ?_
        refine kThen ?_
        refine kSeq ?_
        refine kBlock ?_
        refine kSeq ?_
        refine kRegion rfl ?_
        refine lV (yMove rfl) rfl rfl ?_
        refine lV (yMove rfl) rfl rfl ?_
        refine lV (yCall rfl (.c rfl (.c rfl .n)) C86 (fun w hw => rhas_any S q w hS (by omega))) rfl rfl ?_
        refine lNil ?_
        refine kThen ?_
        refine splitB (t := 83) rfl (fun h83 => ?_) (fun h83 => ?_)
        · refine kIfT rfl ?_
          refine kSeq ?_
          have hql : q < X.looks.length := by omega
          have hlk := hM.l _ (lkAt_mem hql)
          have hl1 := hlk.2.1
          have hl2 := hlk.2.2
          have htb := trv_bd hM hql
          have hl3 : 0 ≤ (X.looks.getD q (0, 0, 0)).1 ∧ (X.looks.getD q (0, 0, 0)).1 ≤ X.eyes - 1 := hl1
          have hl4 : 0 ≤ (X.looks.getD q (0, 0, 0)).2.1 ∧ (X.looks.getD q (0, 0, 0)).2.1 ≤ X.images - 1 := hl2
          have hxi : plN X q < i := by unfold plN; omega
          have hyi : eyN X q < i := by unfold eyN; omega
          refine kRegion rfl ?_
          refine lV (yFieldAddr rfl F29_4) rfl rfl ?_
          refine lV (yLoad1 rfl O27 (cOwn 0 rfl rfl)) rfl rfl ?_
          refine lV (yMove rfl) rfl rfl ?_
          refine lV (yIndexS  rfl rfl S27 (hm.l.r) (hql)) rfl rfl ?_
          refine lV (yLoadA (vs := [_, _, _]) rfl A47 (cSl0 (hm.l.r) (hql) rfl)) rfl rfl ?_
          refine lE rfl ?_
          refine eAlloc Z47 fun n16 => ?_
          refine lE rfl ?_
          refine eStoreL 0 rfl rfl rfl rfl K47 rfl (rfl) ?_
          refine lNil ?_
          refine kThen ?_
          refine kSeq ?_
          refine kRegion rfl ?_
          refine lV (yFieldAddr rfl F29_0) rfl rfl ?_
          refine lV (yLoadA (vs := [_, _, _]) rfl A26 (cOwn 1 rfl rfl)) rfl rfl ?_
          refine lV (yFieldAddr rfl F47_2) rfl rfl ?_
          refine lV (yLoad1 rfl O3 (cOwn 0 rfl rfl)) rfl rfl ?_
          refine lV (yCall rfl (.c rfl (.c rfl .n)) C88 (fun w hw => rtravel_any y.l X.m (lkAt X q).2.2 w (hm.eff hw).m (by show X.errs.length ≤ 1000000; omega))) rfl rfl ?_
          refine same (t := 94) (u := outC (trv X q, 0)) rfl (by rw [travelE_look hM hql]) ?_
          refine lV (yMove rfl) rfl rfl ?_
          refine lV (yExtract rfl rfl) rfl rfl ?_
          refine lV (yExtract rfl rfl) rfl rfl ?_
          refine lE rfl ?_
          refine eAlloc Z24 fun n17 => ?_
          refine lE rfl ?_
          refine eStoreL 0 rfl rfl rfl rfl K24 rfl (rfl) ?_
          refine lV (yAssign rfl) rfl rfl ?_
          refine lNil ?_
          refine kThen ?_
          refine kSeq ?_
          refine kRegion rfl ?_
          refine lV (yMove rfl) rfl rfl ?_
          refine lV (yFieldAddr rfl F47_0) rfl rfl ?_
          refine lV (yLoad1 rfl O3 (cOwn 1 rfl rfl)) rfl rfl ?_
          refine lV (yAdd rfl rfl (by omega)) rfl rfl ?_
          refine same (t := 100) (u := i64 ((eyN X q : Nat) : Int)) rfl (congrArg i64 (by unfold eyN; show 1 + (lkAt X q).1 = _; omega)) ?_
          refine lV (yFieldAddr rfl F29_2) rfl rfl ?_
          refine lV (yLoad1 rfl O3 (cOwn 2 rfl rfl)) rfl rfl ?_
          refine lV (yAdd rfl rfl (by omega)) rfl rfl ?_
          refine lV (yFieldAddr rfl F47_1) rfl rfl ?_
          refine lV (yLoad1 rfl O3 (cOwn 1 rfl rfl)) rfl rfl ?_
          refine lV (yAdd rfl rfl (by omega)) rfl rfl ?_
          refine same (t := 106) (u := i64 ((plN X q : Nat) : Int)) rfl (congrArg i64 (by unfold plN; show 1 + X.eyes + (lkAt X q).2.1 = _; omega)) ?_
          refine lV (yFieldAddr rfl F24_1) rfl rfl ?_
          refine lV (yLoad1 rfl O3 (cOwn 0 rfl rfl)) rfl rfl ?_
          refine lE rfl ?_
          refine eCallE rfl (.c rfl (.c rfl (.c rfl (.c rfl .n)))) C87 (fun w hw => bound_any [(n17, _), (n16, _), (n3, _)] gb rs i _ (eyN X q) (plN X q) (trv X q).2 _ w (hw.sub (subAsc .r)) hmat hyi hxi) fun r1 h1 => ?_
          refine lNil ?_
          refine kThen ?_
          refine kRegion rfl ?_
          refine lV (yMove rfl) rfl rfl ?_
          refine lV (yFieldAddr rfl F29_2) rfl rfl ?_
          refine lV (yLoad1 rfl O3 (cOwn 2 rfl rfl)) rfl rfl ?_
          refine lV (yAdd rfl rfl (by omega)) rfl rfl ?_
          refine lV (yFieldAddr rfl F47_1) rfl rfl ?_
          refine lV (yLoad1 rfl O3 (cOwn 1 rfl rfl)) rfl rfl ?_
          refine lV (yAdd rfl rfl (by omega)) rfl rfl ?_
          refine same (t := 116) (u := i64 ((plN X q : Nat) : Int)) rfl (congrArg i64 (by unfold plN; show 1 + X.eyes + (lkAt X q).2.1 = _; omega)) ?_
          refine lV (yFieldAddr rfl F47_0) rfl rfl ?_
          refine lV (yLoad1 rfl O3 (cOwn 1 rfl rfl)) rfl rfl ?_
          refine lV (yAdd rfl rfl (by omega)) rfl rfl ?_
          refine same (t := 119) (u := i64 ((eyN X q : Nat) : Int)) rfl (congrArg i64 (by unfold eyN; show 1 + (lkAt X q).1 = _; omega)) ?_
          refine lV (yFieldAddr rfl F24_0) rfl rfl ?_
          refine lV (yLoad1 rfl O3 (cOwn 0 rfl rfl)) rfl rfl ?_
          refine lV (yNeg rfl (by dsimp only; omega)) rfl rfl ?_
          refine lE rfl ?_
          refine eCallE rfl (.c rfl (.c rfl (.c rfl (.c rfl .n)))) C87 (fun w hw => bound_any [(n17, _), (n16, _), (n3, _)] gb r1 i _ (plN X q) (eyN X q) (-(trv X q).1) _ w (hw.sub .r) h1 hxi hyi) fun r2 h2 => ?_
          refine lNil ?_
          refine kInN ?_
          refine kThen ?_
          refine kRegion rfl ?_
          refine lV (yMove rfl) rfl rfl ?_
          refine lV (yAdd rfl rfl (by omega)) rfl rfl ?_
          refine lV (yAssign rfl) rfl rfl ?_
          refine lNil ?_
          exact kRoundX (q + 1, r2) (⟨by dsimp only; omega, by dsimp only; rw [loks_succ, if_pos h83, ← List.append_assoc, bnd_app]; unfold lookLnk; rw [travs_get X hql, bnd_tie]; exact h2⟩) (by dsimp only; omega) rfl (.c rfl .n) (.c rfl (.c rfl (.c rfl (.c rfl (.c rfl (.c rfl (.c rfl (.c rfl (.c rfl (.c rfl (.c rfl (.c rfl (.c rfl (.c rfl (.c rfl (.c rfl (.c rfl (.c rfl (.c rfl (.c rfl (.c rfl (.c rfl (.c rfl .n))))))))))))))))))))))) (.c 2 rfl (.d 0 (.d 0 .r)))
        · refine kIfF rfl ?_
          refine kSkip ?_
          refine kInN ?_
          refine kThen ?_
          refine kRegion rfl ?_
          refine lV (yMove rfl) rfl rfl ?_
          refine lV (yAdd rfl rfl (by omega)) rfl rfl ?_
          refine lV (yAssign rfl) rfl rfl ?_
          refine lNil ?_
          exact kRoundX (q + 1, rs) (⟨by dsimp only; omega, by dsimp only; rw [loks_succ, if_neg (by rw [h83]; decide), List.append_nil]; exact hmat⟩) (by dsimp only; omega) rfl (.c rfl .n) (.c rfl (.c rfl (.c rfl (.c rfl (.c rfl (.c rfl (.c rfl (.c rfl (.c rfl (.c rfl (.c rfl (.c rfl (.c rfl (.c rfl (.c rfl (.c rfl (.c rfl (.c rfl (.c rfl (.c rfl (.c rfl (.c rfl (.c rfl .n))))))))))))))))))))))) (.c 0 rfl .r)
      · refine kIfF rfl ?_
        refine kExit ?_
        refine kThenX ?_
        refine kThenX ?_
        refine kInX ?_
        refine kThen ?_
        refine kSeq ?_
        refine kSeq ?_
        obtain rfl : q = X.looks.length := by omega
        have hraw : bndM (habs X E m ++ loks X S X.looks.length) mat0 = rawM X S E := by unfold rawM linksP; rw [he]
        rw [hraw] at hmat
        obtain ⟨B, hBe⟩ : ∃ B, rawM X S E = B := ⟨_, rfl⟩
        rw [hBe] at hmat
        have hB : FBd farF i 100000 B := by rw [← hBe]; exact bnd_bd (by omega) i _ _ (fun x hx => (links_big hM S E x hx).1) (mat0_bd i)
        refine kRegion rfl ?_
        refine lV (yAssign rfl) rfl rfl ?_
        refine lNil ?_
        refine kThen ?_
        refine kBlock ?_
        refine kLoopX (ι := Nat × MRows) (fun x => x.1 ≤ i ∧ MatP i gb x.2 (fClose farF i B x.1)) (fun x => [(19, i64 (x.1 : Nat))]) [(0, _), (1, _), (2, _), (3, _), (6, _), (7, _), (23, _), (24, _), (25, _), (26, _), (27, _), (28, _), (8, _), (10, _), (9, _), (29, _), (30, _), (31, _), (13, _), (49, _), (50, _), (51, _), (52, _), (15, _), (74, _), (75, _), (76, _), (77, _), (78, _)] (fun x => []) (fun x => (osL 41 gb ++ x.2.H)) [(n3, _)] (fun x => i - x.1) (0, rs) (⟨Nat.zero_le _, hmat⟩) rfl (.c rfl .n) (.c rfl (.c rfl (.c rfl (.c rfl (.c rfl (.c rfl (.c rfl (.c rfl (.c rfl (.c rfl (.c rfl (.c rfl (.c rfl (.c rfl (.c rfl (.c rfl (.c rfl (.c rfl (.c rfl (.c rfl (.c rfl (.c rfl (.c rfl (.c rfl (.c rfl (.c rfl (.c rfl (.c rfl (.c rfl .n))))))))))))))))))))))))))))) (.c 0 rfl .r) ?_
        rintro ⟨j, rs⟩ ⟨hj, hmat⟩
        dsimp only at hj hmat ⊢
        refine kSeq ?_
        refine kSeq ?_
        refine kRegion rfl ?_
        refine lV (yMove rfl) rfl rfl ?_
        refine lV (yMove rfl) rfl rfl ?_
        refine lV (yLss rfl rfl) rfl rfl ?_
        refine lNil ?_
        refine kThen ?_
        refine split (t := 126) rfl (fun h126 => ?_) (fun h126 => ?_)
        · refine kIfT rfl ?_
          refine kSkip ?_
          refine kThen ?_
          refine kSeq ?_
          refine kBlock ?_
          refine kSeq ?_
          refine kRegion rfl ?_
          refine lV (yAssign rfl) rfl rfl ?_
          refine lNil ?_
          refine kThen ?_
          refine kBlock ?_
          refine kLoopX (ι := Nat × MRows) (fun x => x.1 ≤ i ∧ MatP i gb x.2 (fRound farF i (fClose farF i B j) j x.1)) (fun x => [(20, i64 (x.1 : Nat))]) [(0, _), (1, _), (2, _), (3, _), (6, _), (7, _), (23, _), (24, _), (25, _), (26, _), (27, _), (28, _), (8, _), (10, _), (9, _), (29, _), (30, _), (31, _), (13, _), (49, _), (50, _), (51, _), (52, _), (15, _), (74, _), (75, _), (76, _), (77, _), (78, _), (19, _), (124, _), (125, _), (126, _)] (fun x => []) (fun x => (osL 41 gb ++ x.2.H)) [(n3, _)] (fun x => i - x.1) (0, rs) (⟨Nat.zero_le _, hmat⟩) rfl (.c rfl .n) (.c rfl (.c rfl (.c rfl (.c rfl (.c rfl (.c rfl (.c rfl (.c rfl (.c rfl (.c rfl (.c rfl (.c rfl (.c rfl (.c rfl (.c rfl (.c rfl (.c rfl (.c rfl (.c rfl (.c rfl (.c rfl (.c rfl (.c rfl (.c rfl (.c rfl (.c rfl (.c rfl (.c rfl (.c rfl (.c rfl (.c rfl (.c rfl (.c rfl .n))))))))))))))))))))))))))))))))) (.c 0 rfl .r) ?_
          rintro ⟨i2, rs⟩ ⟨hi2, hmat⟩
          dsimp only at hi2 hmat ⊢
          refine kSeq ?_
          refine kSeq ?_
          refine kRegion rfl ?_
          refine lV (yMove rfl) rfl rfl ?_
          refine lV (yMove rfl) rfl rfl ?_
          refine lV (yLss rfl rfl) rfl rfl ?_
          refine lNil ?_
          refine kThen ?_
          refine split (t := 131) rfl (fun h131 => ?_) (fun h131 => ?_)
          · refine kIfT rfl ?_
            refine kSkip ?_
            refine kThen ?_
            refine kSeq ?_
            refine kBlock ?_
            refine kSeq ?_
            refine kRegion rfl ?_
            refine lV (yAssign rfl) rfl rfl ?_
            refine lNil ?_
            refine kThen ?_
            refine kBlock ?_
            refine kLoopX (ι := Nat × MRows) (fun x => x.1 ≤ i ∧ MatP i gb x.2 (fRow farF j (fRound farF i (fClose farF i B j) j i2) i2 x.1)) (fun x => [(21, i64 (x.1 : Nat))]) [(0, _), (1, _), (2, _), (3, _), (6, _), (7, _), (23, _), (24, _), (25, _), (26, _), (27, _), (28, _), (8, _), (10, _), (9, _), (29, _), (30, _), (31, _), (13, _), (49, _), (50, _), (51, _), (52, _), (15, _), (74, _), (75, _), (76, _), (77, _), (78, _), (19, _), (124, _), (125, _), (126, _), (20, _), (129, _), (130, _), (131, _)] (fun x => []) (fun x => (osL 41 gb ++ x.2.H)) [(n3, _)] (fun x => i - x.1) (0, rs) (⟨Nat.zero_le _, hmat⟩) rfl (.c rfl .n) (.c rfl (.c rfl (.c rfl (.c rfl (.c rfl (.c rfl (.c rfl (.c rfl (.c rfl (.c rfl (.c rfl (.c rfl (.c rfl (.c rfl (.c rfl (.c rfl (.c rfl (.c rfl (.c rfl (.c rfl (.c rfl (.c rfl (.c rfl (.c rfl (.c rfl (.c rfl (.c rfl (.c rfl (.c rfl (.c rfl (.c rfl (.c rfl (.c rfl (.c rfl (.c rfl (.c rfl (.c rfl .n))))))))))))))))))))))))))))))))))))) (.c 0 rfl .r) ?_
            rintro ⟨k2, rs⟩ ⟨hk2, hmat⟩
            dsimp only at hk2 hmat ⊢
            refine kSeq ?_
            refine kSeq ?_
            refine kRegion rfl ?_
            refine lV (yMove rfl) rfl rfl ?_
            refine lV (yMove rfl) rfl rfl ?_
            refine lV (yLss rfl rfl) rfl rfl ?_
            refine lNil ?_
            refine kThen ?_
            refine split (t := 136) rfl (fun h136 => ?_) (fun h136 => ?_)
            · refine kIfT rfl ?_
              refine kSkip ?_
              refine kThen ?_
              refine kSeq ?_
              refine kBlock ?_
              refine kSeq ?_
              have hjl : j < i := by omega
              have hil : i2 < i := by omega
              have hkl : k2 < i := by omega
              have hb1 := mid_bd (i := i2) (k := k2) hB hN11 hjl hil (by omega) hil hjl
              have hb2 := mid_bd (i := i2) (k := k2) hB hN11 hjl hil (by omega) hjl hkl
              obtain ⟨b, hbe⟩ : ∃ b, fRow farF j (fRound farF i (fClose farF i B j) j i2) i2 k2 = b := ⟨_, rfl⟩
              rw [hbe] at hmat hb1 hb2
              refine kRegion rfl ?_
              refine lV (yMove rfl) rfl rfl ?_
              refine lV (yMove rfl) rfl rfl ?_
              refine lV (yIndexS  rfl rfl S86 (fun w hw => matB hmat (hw.sub (.d 0 .r)) (SubP.leftA _ _)) (hil)) rfl rfl ?_
              refine lV (yLoad1 rfl O41 (cSl0 (fun w hw => matB hmat (hw.sub (.d 0 .r)) (SubP.leftA _ _)) (hil) rfl)) rfl rfl ?_
              refine lV (yMove rfl) rfl rfl ?_
              refine lV (yIndexS  rfl rfl S41 (fun w hw => matR hmat (hw.sub (.d 0 .r)) SubP.tail hil) (hjl)) rfl rfl ?_
              refine lV (yLoad1 rfl O3 (cSl0 (fun w hw => matR hmat (hw.sub (.d 0 .r)) SubP.tail hil) (hjl) rfl)) rfl rfl ?_
              refine lV (yLss rfl rfl) rfl rfl ?_
              refine lV (yMove rfl) rfl rfl ?_
              refine split (t := 147) rfl (fun h147 => ?_) (fun h147 => ?_)
              · refine lGY rfl rfl rfl (oV (yMove rfl) rfl ?_)
                refine lGY rfl rfl rfl (oV (yMove rfl) rfl ?_)
                refine lGY rfl rfl rfl (oV (yIndexS  rfl rfl S86 (fun w hw => matB hmat (hw.sub (.d 0 .r)) (SubP.leftA _ _)) (hjl)) rfl ?_)
                refine lGY rfl rfl rfl (oV (yLoad1 rfl O41 (cSl0 (fun w hw => matB hmat (hw.sub (.d 0 .r)) (SubP.leftA _ _)) (hjl) rfl)) rfl ?_)
                refine lGY rfl rfl rfl (oV (yMove rfl) rfl ?_)
                refine lGY rfl rfl rfl (oV (yIndexS  rfl rfl S41 (fun w hw => matR hmat (hw.sub (.d 0 .r)) SubP.tail hjl) (hkl)) rfl ?_)
                refine lGY rfl rfl rfl (oV (yLoad1 rfl O3 (cSl0 (fun w hw => matR hmat (hw.sub (.d 0 .r)) SubP.tail hjl) (hkl) rfl)) rfl ?_)
                refine lGY rfl rfl rfl (oV (yLss rfl rfl) rfl ?_)
                refine split (t := 155) rfl (fun h155 => ?_) (fun h155 => ?_)
                · refine lV (yPickT rfl rfl) rfl rfl ?_
                  refine lNil ?_
                  refine kThen ?_
                  refine kIfT rfl ?_
                  refine kDrawE [(8, none), (9, none), (15, none), (16, none)] [(5, (fun w => SlE w (osA gb) i 1 (fun j => [osV (rs.at j) i]))), (6, (fun w => SlE w (osA gb) i 1 (fun j => [osV (rs.at j) i]))), (12, (fun w => SlE w (osA gb) i 1 (fun j => [osV (rs.at j) i]))), (13, (fun w => SlE w (osA gb) i 1 (fun j => [osV (rs.at j) i])))] [0, 1, 2, 3, 4, 5, 6, 7, 8, 9, 10, 11, 12, 13, 14, 15, 16, 17] 1 hMix (by kernel_rfl) ?_
                  refine .run rfl (yMove rfl) rfl rfl ?_
                  refine .run rfl (yMove rfl) rfl rfl ?_
                  refine .run rfl (yMove rfl) rfl rfl ?_
                  refine .run rfl (yMove rfl) rfl rfl ?_
                  refine .run rfl (yMove rfl) rfl rfl ?_
                  refine .run rfl (yIndexS  rfl rfl S86 (fun w hw => hw) (hil)) rfl rfl ?_
                  refine .run rfl (yLoad1 rfl O41 (cSl0 (fun w hw => hw) (hil) rfl)) rfl rfl ?_
                  refine .run rfl (yMove rfl) rfl rfl ?_
                  refine .run rfl (yIndexS  rfl rfl S41 (fun w hw => matR hmat (hw.sub (.d 0 .r)) SubP.tail hil) (hjl)) rfl rfl ?_
                  refine .run rfl (yLoad1 rfl O3 (cSl0 (fun w hw => matR hmat (hw.sub (.d 0 .r)) SubP.tail hil) (hjl) rfl)) rfl rfl ?_
                  refine .run rfl (yMove rfl) rfl rfl ?_
                  refine .run rfl (yMove rfl) rfl rfl ?_
                  refine .run rfl (yIndexS  rfl rfl S86 (fun w hw => hw) (hjl)) rfl rfl ?_
                  refine .run rfl (yLoad1 rfl O41 (cSl0 (fun w hw => hw) (hjl) rfl)) rfl rfl ?_
                  refine .run rfl (yMove rfl) rfl rfl ?_
                  refine .run rfl (yIndexS  rfl rfl S41 (fun w hw => matR hmat (hw.sub (.d 0 .r)) SubP.tail hjl) (hkl)) rfl rfl ?_
                  refine .run rfl (yLoad1 rfl O3 (cSl0 (fun w hw => matR hmat (hw.sub (.d 0 .r)) SubP.tail hjl) (hkl) rfl)) rfl rfl ?_
                  refine .run rfl (yAdd rfl rfl (by omega)) rfl rfl ?_
                  refine .done ?_
                  refine effStep 18 [] (by kernel_rfl) closedSt (hLeft [5, 6, 8, 9, 12, 13, 15, 16] (by kernel_rfl) (.c (fun _ _ hs => matB hmat (hs.ef.sub (.d 0 .r)) (SubP.leftA _ _)) (.c (fun _ _ hs => matB hmat (hs.ef.sub (.d 0 .r)) (SubP.leftA _ _)) (.c (fun _ _ hs => hs.ef) (.c (fun _ _ hs => hs.ef) (.c (fun _ _ hs => matB hmat (hs.ef.sub (.d 0 .r)) (SubP.leftA _ _)) (.c (fun _ _ hs => matB hmat (hs.ef.sub (.d 0 .r)) (SubP.leftA _ _)) (.c (fun _ _ hs => hs.ef) (.c (fun _ _ hs => hs.ef) .n))))))))) ?_
                  refine .c ?_ .n
                  refine effOne rfl (gNone rfl (fCallE rfl (.c rfl (.c rfl (.c rfl (.c rfl .n)))) C87 (fun w hw => bound_any [(n3, _)] gb rs i b i2 k2 (b i2 j + b j k2) _ w (hw.sub (subAsc .r)) hmat hil hkl))) ?_
                  refine effDone (closedEx fun rt => closedSt) (hLeft [5, 6, 12, 13] (by kernel_rfl) (.c (fun _ _ ⟨rt, hs⟩ => matBH hmat rt.2 hs.ef (.d 0 (SubP.leftA _ _))) (.c (fun _ _ ⟨rt, hs⟩ => matBH hmat rt.2 hs.ef (.d 0 (SubP.leftA _ _))) (.c (fun _ _ ⟨rt, hs⟩ => matBH hmat rt.2 hs.ef (.d 0 (SubP.leftA _ _))) (.c (fun _ _ ⟨rt, hs⟩ => matBH hmat rt.2 hs.ef (.d 0 (SubP.leftA _ _))) .n))))) (by kernel_rfl) ?_
                  refine trEx fun rt => ?_
                  refine kInN ?_
                  refine kThen ?_
                  refine kRegion rfl ?_
                  refine lV (yMove rfl) rfl rfl ?_
                  refine lV (yAdd rfl rfl (by omega)) rfl rfl ?_
                  refine lV (yAssign rfl) rfl rfl ?_
                  refine lNil ?_
                  exact kRoundX (k2 + 1, rt.1) (⟨by dsimp only; omega, by dsimp only; rw [fRow_succ, hbe]; unfold fStep; rw [if_pos ⟨h147, h155⟩]; exact rt.2⟩) (by dsimp only; omega) rfl (.c rfl .n) (.c rfl (.c rfl (.c rfl (.c rfl (.c rfl (.c rfl (.c rfl (.c rfl (.c rfl (.c rfl (.c rfl (.c rfl (.c rfl (.c rfl (.c rfl (.c rfl (.c rfl (.c rfl (.c rfl (.c rfl (.c rfl (.c rfl (.c rfl (.c rfl (.c rfl (.c rfl (.c rfl (.c rfl (.c rfl (.c rfl (.c rfl (.c rfl (.c rfl (.c rfl (.c rfl (.c rfl (.c rfl .n))))))))))))))))))))))))))))))))))))) (.c 0 rfl .r)
                · have hno : ¬ (b i2 j < farF ∧ b j k2 < farF) := fun h => h155 h.2
                  refine lV (yPickT rfl rfl) rfl rfl ?_
                  refine lNil ?_
                  refine kThen ?_
                  refine kIfF rfl ?_
                  refine kSkip ?_
                  refine kInN ?_
                  refine kThen ?_
                  refine kRegion rfl ?_
                  refine lV (yMove rfl) rfl rfl ?_
                  refine lV (yAdd rfl rfl (by omega)) rfl rfl ?_
                  refine lV (yAssign rfl) rfl rfl ?_
                  refine lNil ?_
                  exact kRoundX (k2 + 1, rs) (⟨by dsimp only; omega, by dsimp only; rw [fRow_succ, hbe]; unfold fStep; rw [if_neg hno]; exact hmat⟩) (by dsimp only; omega) rfl (.c rfl .n) (.c rfl (.c rfl (.c rfl (.c rfl (.c rfl (.c rfl (.c rfl (.c rfl (.c rfl (.c rfl (.c rfl (.c rfl (.c rfl (.c rfl (.c rfl (.c rfl (.c rfl (.c rfl (.c rfl (.c rfl (.c rfl (.c rfl (.c rfl (.c rfl (.c rfl (.c rfl (.c rfl (.c rfl (.c rfl (.c rfl (.c rfl (.c rfl (.c rfl (.c rfl (.c rfl (.c rfl (.c rfl .n))))))))))))))))))))))))))))))))))))) (.c 0 rfl .r)
              · have hno : ¬ (b i2 j < farF ∧ b j k2 < farF) := fun h => h147 h.1
                refine lGN rfl rfl rfl rfl rfl ?_
                refine lGN rfl rfl rfl rfl rfl ?_
                refine lGN rfl rfl rfl rfl rfl ?_
                refine lGN rfl rfl rfl rfl rfl ?_
                refine lGN rfl rfl rfl rfl rfl ?_
                refine lGN rfl rfl rfl rfl rfl ?_
                refine lGN rfl rfl rfl rfl rfl ?_
                refine lGN rfl rfl rfl rfl rfl ?_
                refine lV (yPickF rfl rfl) rfl rfl ?_
                refine lNil ?_
                refine kThen ?_
                refine kIfF rfl ?_
                refine kSkip ?_
                refine kInN ?_
                refine kThen ?_
                refine kRegion rfl ?_
                refine lV (yMove rfl) rfl rfl ?_
                refine lV (yAdd rfl rfl (by omega)) rfl rfl ?_
                refine lV (yAssign rfl) rfl rfl ?_
                refine lNil ?_
                exact kRoundX (k2 + 1, rs) (⟨by dsimp only; omega, by dsimp only; rw [fRow_succ, hbe]; unfold fStep; rw [if_neg hno]; exact hmat⟩) (by dsimp only; omega) rfl (.c rfl .n) (.c rfl (.c rfl (.c rfl (.c rfl (.c rfl (.c rfl (.c rfl (.c rfl (.c rfl (.c rfl (.c rfl (.c rfl (.c rfl (.c rfl (.c rfl (.c rfl (.c rfl (.c rfl (.c rfl (.c rfl (.c rfl (.c rfl (.c rfl (.c rfl (.c rfl (.c rfl (.c rfl (.c rfl (.c rfl (.c rfl (.c rfl (.c rfl (.c rfl (.c rfl (.c rfl (.c rfl (.c rfl .n))))))))))))))))))))))))))))))))))))) (.c 0 rfl .r)
            · refine kIfF rfl ?_
              refine kExit ?_
              refine kThenX ?_
              refine kThenX ?_
              refine kInX ?_
              refine kInN ?_
              refine kThen ?_
              refine kRegion rfl ?_
              refine lV (yMove rfl) rfl rfl ?_
              refine lV (yAdd rfl rfl (by omega)) rfl rfl ?_
              refine lV (yAssign rfl) rfl rfl ?_
              refine lNil ?_
              exact kRoundX (i2 + 1, rs) (⟨by dsimp only; omega, by dsimp only; rw [fRound_succ]; rwa [show k2 = i from by omega] at hmat⟩) (by dsimp only; omega) rfl (.c rfl .n) (.c rfl (.c rfl (.c rfl (.c rfl (.c rfl (.c rfl (.c rfl (.c rfl (.c rfl (.c rfl (.c rfl (.c rfl (.c rfl (.c rfl (.c rfl (.c rfl (.c rfl (.c rfl (.c rfl (.c rfl (.c rfl (.c rfl (.c rfl (.c rfl (.c rfl (.c rfl (.c rfl (.c rfl (.c rfl (.c rfl (.c rfl (.c rfl (.c rfl .n))))))))))))))))))))))))))))))))) (.c 0 rfl .r)
          · refine kIfF rfl ?_
            refine kExit ?_
            refine kThenX ?_
            refine kThenX ?_
            refine kInX ?_
            refine kInN ?_
            refine kThen ?_
            refine kRegion rfl ?_
            refine lV (yMove rfl) rfl rfl ?_
            refine lV (yAdd rfl rfl (by omega)) rfl rfl ?_
            refine lV (yAssign rfl) rfl rfl ?_
            refine lNil ?_
            exact kRoundX (j + 1, rs) (⟨by dsimp only; omega, by dsimp only; rw [fClose_succ]; rwa [show i2 = i from by omega] at hmat⟩) (by dsimp only; omega) rfl (.c rfl .n) (.c rfl (.c rfl (.c rfl (.c rfl (.c rfl (.c rfl (.c rfl (.c rfl (.c rfl (.c rfl (.c rfl (.c rfl (.c rfl (.c rfl (.c rfl (.c rfl (.c rfl (.c rfl (.c rfl (.c rfl (.c rfl (.c rfl (.c rfl (.c rfl (.c rfl (.c rfl (.c rfl (.c rfl (.c rfl .n))))))))))))))))))))))))))))) (.c 0 rfl .r)
        · refine kIfF rfl ?_
          refine kExit ?_
          refine kThenX ?_
          refine kThenX ?_
          refine kInX ?_
          refine kThen ?_
          refine kSeq ?_
          refine kSeq ?_
          have hmat : MatP (cntN X) gb rs (refM X S E) := by
            unfold refM
            rw [hN, hBe]
            rwa [show j = i from by omega] at hmat
          rw [← hN]
          refine kRegion rfl ?_
          refine lV (yAssign rfl) rfl rfl ?_
          refine lNil ?_
          refine kThen ?_
          refine kBlock ?_
          refine kLoopX (ι := Nat) (fun q5 => q5 ≤ cntN X ∧ ∀ r, r < q5 → 0 ≤ refM X S E r r) (fun q5 => [(22, i64 (q5 : Nat))]) [(0, _), (1, _), (2, _), (3, _), (23, _), (24, _), (25, _), (26, _), (27, _), (28, _), (8, _), (10, _), (9, _), (29, _), (30, _), (31, _), (13, _), (49, _), (50, _), (51, _), (52, _), (15, _), (74, _), (75, _), (76, _), (77, _), (78, _), (19, _), (124, _), (125, _), (126, _)] (fun q5 => []) (fun q5 => (osL 41 gb ++ rs.H)) [(n3, _)] (fun q5 => cntN X - q5) 0 (⟨Nat.zero_le _, fun r hr => absurd hr (by omega)⟩) rfl (.c rfl .n) (.c rfl (.c rfl (.c rfl (.c rfl (.c rfl (.c rfl (.c rfl (.c rfl (.c rfl (.c rfl (.c rfl (.c rfl (.c rfl (.c rfl (.c rfl (.c rfl (.c rfl (.c rfl (.c rfl (.c rfl (.c rfl (.c rfl (.c rfl (.c rfl (.c rfl (.c rfl (.c rfl (.c rfl (.c rfl (.c rfl (.c rfl .n))))))))))))))))))))))))))))))) (.c 0 rfl .r) ?_
          rintro q5 ⟨hq5, hdg⟩
          refine kSeq ?_
          refine kSeq ?_
          refine kRegion rfl ?_
          refine lV (yMove rfl) rfl rfl ?_
          refine lV (yMove rfl) rfl rfl ?_
          refine lV (yLss rfl rfl) rfl rfl ?_
          refine lNil ?_
          refine kThen ?_
          refine split (t := 178) rfl (fun h178 => ?_) (fun h178 => ?_)
          · refine kIfT rfl ?_
            refine kSkip ?_
            refine kThen ?_
            refine kSeq ?_
            refine kBlock ?_
            refine kSeq ?_
            refine kRegion rfl ?_
            refine lV (yMove rfl) rfl rfl ?_
            refine lV (yMove rfl) rfl rfl ?_
            refine lV (yIndexS  rfl rfl S86 (fun w hw => matB hmat (hw.sub (.d 0 .r)) (SubP.leftA _ _)) ((by omega))) rfl rfl ?_
            refine lV (yLoad1 rfl O41 (cSl0 (fun w hw => matB hmat (hw.sub (.d 0 .r)) (SubP.leftA _ _)) ((by omega)) rfl)) rfl rfl ?_
            refine lV (yMove rfl) rfl rfl ?_
            refine lV (yIndexS  rfl rfl S41 (fun w hw => matR hmat (hw.sub (.d 0 .r)) SubP.tail (show q5 < cntN X by omega)) ((by omega))) rfl rfl ?_
            refine lV (yLoad1 rfl O3 (cSl0 (fun w hw => matR hmat (hw.sub (.d 0 .r)) SubP.tail (show q5 < cntN X by omega)) ((by omega)) rfl)) rfl rfl ?_
            refine lV (yLss rfl rfl) rfl rfl ?_
            refine lNil ?_
            refine kThen ?_
            refine split (t := 188) rfl (fun h188 => ?_) (fun h188 => ?_)
            · refine kIfT rfl ?_
              refine kSeq ?_
              refine kRegion rfl ?_
              refine lV (yAssign rfl) rfl rfl ?_
              refine lV (yAssign rfl) rfl rfl ?_
              refine lNil ?_
              refine kThen ?_
              refine kRet ?_
              refine kInR ?_
              refine kThenR ?_
              refine kThenR ?_
              refine kInR ?_
              refine kThenR ?_
              refine fRet rfl (.t rfl (.t rfl .n)) ?_
              exact fun w' hw' => .inr ⟨fun h => absurd (h q5 (by omega)) (by omega), endRet rfl w' hw'⟩
            · refine kIfF rfl ?_
              refine kSkip ?_
              refine kInN ?_
              refine kThen ?_
              refine kRegion rfl ?_
              refine lV (yMove rfl) rfl rfl ?_
              refine lV (yAdd rfl rfl (by omega)) rfl rfl ?_
              refine lV (yAssign rfl) rfl rfl ?_
              refine lNil ?_
              exact kRoundX (q5 + 1) (⟨by omega, fun r hr => by rcases Nat.lt_or_ge r q5 with h | h; (· exact hdg r h); (obtain rfl : r = q5 := (by omega)); omega⟩) (by omega) rfl (.c rfl .n) (.c rfl (.c rfl (.c rfl (.c rfl (.c rfl (.c rfl (.c rfl (.c rfl (.c rfl (.c rfl (.c rfl (.c rfl (.c rfl (.c rfl (.c rfl (.c rfl (.c rfl (.c rfl (.c rfl (.c rfl (.c rfl (.c rfl (.c rfl (.c rfl (.c rfl (.c rfl (.c rfl (.c rfl (.c rfl (.c rfl (.c rfl .n))))))))))))))))))))))))))))))) (.c 0 rfl .r)
          · refine kIfF rfl ?_
            refine kExit ?_
            refine kThenX ?_
            refine kThenX ?_
            refine kInX ?_
            refine kThen ?_
            refine kSeq ?_
            refine kRegion rfl ?_
            refine lV (yMove rfl) rfl rfl ?_
            refine lV (yAssign rfl) rfl rfl ?_
            refine lV (yAssign rfl) rfl rfl ?_
            refine lNil ?_
            refine kThen ?_
            refine kRet ?_
            refine fRet rfl (.t rfl (.t rfl .n)) ?_
            obtain rfl : q5 = cntN X := by omega
            exact fun w' hw' => .inl ⟨fun r hr => hdg r hr, endX (gb, rs) hmat rfl rfl (.d 0 .r) w' hw'⟩
end Go.Proofs.Ytiaaidcdoenloaa
