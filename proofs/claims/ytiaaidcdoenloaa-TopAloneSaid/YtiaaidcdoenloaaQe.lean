/-
  Walks: whether looks can be right; between two things.
-/
import Derived.Test.YtiaaidcdoenloaaQd
namespace Go.Proofs.Ytiaaidcdoenloaa
open ZW

theorem tieP_mem {i k : Nat} {s : Int × Int} {x : Lnk} (h : x ∈ tieP i k s) : x = (i, k, s.2) ∨ x = (k, i, -s.1) := by simpa [tieP] using h
theorem habs_mem {X : Wat} {E n : Nat} {x : Lnk} : x ∈ habs X E n ↔ ∃ m, m < n ∧ x ∈ tieP 0 (1 + m) (habOf X E m) := by simp [habs]
theorem loks_mem {X : Wat} {S n : Nat} {x : Lnk} : x ∈ loks X S n ↔ ∃ i, i < n ∧ S.testBit i = true ∧ x ∈ lookLnk X i := by
  simp only [loks, List.mem_flatMap, List.mem_range]
  constructor
  · rintro ⟨i, hi, hx⟩
    split at hx
    · rename_i h; exact ⟨i, hi, h, hx⟩
    · simp at hx
  · rintro ⟨i, hi, h, hx⟩
    exact ⟨i, hi, by rw [if_pos h]; exact hx⟩
theorem habOf_bd {X : Wat} (hM : WatOk X) (E m : Nat) : -200 ≤ (habOf X E m).1 ∧ (habOf X E m).1 ≤ 0 ∧ 0 ≤ (habOf X E m).2 ∧ (habOf X E m).2 ≤ 200 := by
  have h1 := hM.h
  have h2 := hM.k
  unfold habOf
  split
  · omega
  · exact ⟨by omega, by omega, by omega, by omega⟩
theorem links_bd {X : Wat} (hM : WatOk X) (S E : Nat) : ∀ x ∈ linksP X S E, -50000 ≤ x.2.2 ∧ x.2.2 ≤ 50000 := by
  intro x hx
  rcases List.mem_append.1 hx with hx | hx
  · obtain ⟨m, _, hx⟩ := habs_mem.1 hx
    have := habOf_bd hM E m
    rcases tieP_mem hx with rfl | rfl <;> simp only <;> omega
  · obtain ⟨i, hi, _, hx⟩ := loks_mem.1 hx
    have hlk := hM.l _ (getD_mem (i := i) hi look0)
    have := travel_bd hM.s hlk.1
    rw [← travs_get X hi] at this
    rcases tieP_mem hx with rfl | rfl <;> simp only <;> omega
theorem links_big {X : Wat} (hM : WatOk X) (S E : Nat) : ∀ x ∈ linksP X S E, -100000 ≤ x.2.2 ∧ x.2.2 ≤ 100000 := fun x hx => by
  have := links_bd hM S E x hx; omega
theorem links_len {X : Wat} (hM : WatOk X) (S E : Nat) : 0 < (linksP X S E).length ∧ (linksP X S E).length ≤ 32 := by
  have h1 := habs_len X E X.eyes.toNat
  have h2 := loks_len X S X.looks.length
  have h3 := hM.e
  have h4 := hM.n
  unfold linksP
  rw [List.length_append]
  omega
theorem links_any' (nm : Nat) (y : WLoc) (X : Wat) (G : Own) (S E : Nat) (w : World) (hX : InWt w nm y X G) (hM : WatOk X) (hS : S < 2 ^ 63) (hE : E < 2 ^ 63) :
    Calls Try.prog 82 [.pointer (some ⟨nm, 0, none⟩), .int .u64 (S : Nat), .int .u64 (E : Nat)].toArray w
      (RetX w (fun g => OS 3 g ((linksP X S E).map rowL)) (fun g => osV g (linksP X S E).length) (fun _ => []) (fun g => osL 163 g)) :=
  (links_any nm y X G S E w hX hM hS hE).mono fun _ _ ⟨g, h1, h2, h3⟩ => ⟨g, h1, by rw [h2, List.length_map], h3⟩
/-- Can the looks of a set be right, if the measurers of another one have habits? -/
def canB (X : Wat) (S E : Nat) : Bool := (farP 0 (linksP X S E)).isSome

set_option maxRecDepth 100000 in
theorem can_any (nm : Nat) (y : WLoc) (X : Wat) (G : Own) (S E : Nat) (w : World) (hX : InWt w nm y X G) (hM : WatOk X) (hS : S < 2 ^ 63) (hE : E < 2 ^ 63) :
    Calls Try.prog 55 [.pointer (some ⟨nm, 0, none⟩), .int .u64 (S : Nat), .int .u64 (E : Nat)].toArray w (Ret w (.bool (canB X S E))) := by
  have hlen := links_len hM S E
  have hbig := links_big hM S E
  refine fEnter Try.func55 rfl Try.ntmps55 rfl ?_
  refine kSeq ?_
  refine kRegion rfl ?_
  refine lV (yAssign rfl) rfl rfl ?_
  refine lNil ?_
  refine kThen ?_
  refine kSeq ?_
  by_cases hf : (farP 0 (linksP X S E)).isSome = true
  · refine kRegion rfl ?_
    refine lV (yMove rfl) rfl rfl ?_
    refine lV (yMove rfl) rfl rfl ?_
    refine lV (yMove rfl) rfl rfl ?_
    refine lE rfl ?_
    refine eCallO rfl (.c rfl (.c rfl (.c rfl .n))) C82 (fun w hw => links_any' nm y X G S E w (hX.eff hw) hM hS hE) fun g hg => ?_
    refine lE rfl ?_
    refine eCallX rfl (.c rfl (.c rfl .n)) C83 (fun w hw => far_yes (s := 0) (OS.rowsE (f := rowL) lnk0 hg hw .r) hlen.1 (by omega) hbig (Option.some_get hf).symm) fun ⟨q, es⟩ _ => ?_
    refine lV (yMove rfl) rfl rfl ?_
    refine lV (yExtract rfl rfl) rfl rfl ?_
    refine lV (yExtract rfl rfl) rfl rfl ?_
    refine lV (yAssign rfl) rfl rfl ?_
    refine lV (yAssign rfl) rfl rfl ?_
    refine lNil ?_
    refine kThen ?_
    refine kSeq ?_
    refine kRegion rfl ?_
    refine lV (yMove rfl) rfl rfl ?_
    refine lV (yAssign rfl) rfl rfl ?_
    refine lNil ?_
    refine kThen ?_
    refine kRet ?_
    refine fRet rfl (.t rfl .n) (endRet ?_)
    simp only [packV, canB, hf]
  · refine kRegion rfl ?_
    refine lV (yMove rfl) rfl rfl ?_
    refine lV (yMove rfl) rfl rfl ?_
    refine lV (yMove rfl) rfl rfl ?_
    refine lE rfl ?_
    refine eCallO rfl (.c rfl (.c rfl (.c rfl .n))) C82 (fun w hw => links_any' nm y X G S E w (hX.eff hw) hM hS hE) fun g hg => ?_
    refine lV (yCall rfl (.c rfl (.c rfl .n)) C83 (fun w hw => far_not (s := 0) (OS.rowsE (f := rowL) lnk0 hg hw .r) hlen.1 (by omega) hbig (by simpa using hf))) rfl rfl ?_
    refine lV (yMove rfl) rfl rfl ?_
    refine lV (yExtract rfl rfl) rfl rfl ?_
    refine lV (yExtract rfl rfl) rfl rfl ?_
    refine lV (yAssign rfl) rfl rfl ?_
    refine lV (yAssign rfl) rfl rfl ?_
    refine lNil ?_
    refine kThen ?_
    refine kSeq ?_
    refine kRegion rfl ?_
    refine lV (yMove rfl) rfl rfl ?_
    refine lV (yAssign rfl) rfl rfl ?_
    refine lNil ?_
    refine kThen ?_
    refine kRet ?_
    refine fRet rfl (.t rfl .n) (endRet ?_)
    simp only [packV, canB]; rw [Bool.eq_false_iff.2 hf]
/-- All looks, and all measurers, as sets. -/
def allS (X : Wat) : Nat := 2 ^ X.looks.length - 1
def allE (X : Wat) : Nat := 2 ^ X.eyes.toNat - 1
theorem allS_lt {X : Wat} (hM : WatOk X) : allS X < 4096 := by
  have hp : 2 ^ X.looks.length ≤ 2 ^ 12 := Nat.pow_le_pow_right (by omega) hM.n
  have hp0 : 0 < 2 ^ X.looks.length := Nat.two_pow_pos _
  unfold allS; omega
theorem allE_lt {X : Wat} (hM : WatOk X) : allE X < 16 := by
  have hp : 2 ^ X.eyes.toNat ≤ 2 ^ 4 := Nat.pow_le_pow_right (by omega) (by have := hM.e; omega)
  have hp0 : 0 < 2 ^ X.eyes.toNat := Nat.two_pow_pos _
  unfold allE; omega
abbrev allL (X : Wat) : List Lnk := linksP X (allS X) (allE X)
/-- What comes of asking what is between two numbers. -/
def BetwR (w : World) (X : Wat) (i k : Nat) : Ending → World → Prop := fun e w' =>
  (∃ m n, farP i (allL X) = some m ∧ farP k (allL X) = some n ∧ Ret w (.tuple [.agg [i64 (-((n i).getD 0)), i64 ((m k).getD 0)].toArray, .bool (m k).isSome].toArray) e w') ∨ ((farP i (allL X) = none ∨ farP k (allL X) = none) ∧ Pan w (failV 10) e w')
theorem rep_val {es : List (Int × Value)} {m : DMap} (h : Rep es m) (v : Nat) : mGet es (v : Int) (i64 0) = i64 ((m v).getD 0) := by
  rw [h v]; cases m v <;> rfl
theorem sml_val {B : Int} {m : DMap} (h : Sml B m) (hB : 0 ≤ B) (v : Nat) : -B ≤ (m v).getD 0 ∧ (m v).getD 0 ≤ B := by
  cases hm : m v with
  | none => simp only [Option.getD_none]; omega
  | some d => exact h v d hm

set_option maxRecDepth 100000 in
set_option maxHeartbeats 4000000 in
theorem betw_any (nm : Nat) (y : WLoc) (X : Wat) (G : Own) (a b : Thing) (w : World) (hX : InWt w nm y X G) (hM : WatOk X) (ha : a.ok) (hb : b.ok) :
    Calls Try.prog 50 [.pointer (some ⟨nm, 0, none⟩), thV a, thV b].toArray w (BetwR w X (a.num X.eyes.toNat) (b.num X.eyes.toNat)) := by
  obtain ⟨e, he⟩ : ∃ e : Nat, X.eyes = (e : Nat) := ⟨X.eyes.toNat, by have := hM.e; omega⟩
  have he' : X.eyes.toNat = e := by omega
  have he4 : e ≤ 4 := by have := hM.e; omega
  have hN := hM.n
  have hS := allS_lt hM
  have hE := allE_lt hM
  have hlen := links_len hM (allS X) (allE X)
  have hbig := links_big hM (allS X) (allE X)
  rw [he']
  refine fEnter Try.func50 rfl Try.ntmps50 rfl ?_
  refine kSeq ?_
  refine kRegion rfl ?_
  refine lE rfl ?_
  refine eAlloc Z24 fun n6 => ?_
  refine lV (yAssign rfl) rfl rfl ?_
  refine lNil ?_
  refine kThen ?_
  refine kSeq ?_
  refine kDrawE [(5, none), (7, none), (12, none), (13, none)] [] [0, 1, 2, 3, 4, 5, 6, 7, 8, 9, 10, 11, 12, 13] 2 hMix (by kernel_rfl) ?_
  refine .run rfl (yMove rfl) rfl rfl ?_
  refine .run rfl (yMove rfl) rfl rfl ?_
  refine .run rfl (yNilCheckP rfl) rfl rfl ?_
  refine .run rfl (yFieldAddr rfl F78_0) rfl rfl ?_
  refine .run rfl (yFieldAddr rfl F29_4) rfl rfl ?_
  refine .run rfl (yLoad1 rfl O27 (cOldB (hX.b) rfl)) rfl rfl ?_
  refine .run rfl (yLen rfl S27) rfl rfl ?_
  refine .run rfl (yvSame (u := .int .u64 ((allS X : Nat) : Int)) (yCall rfl (.c rfl .n) C54 (fun w hw => full_any _ w (by omega))) (rfl)) rfl rfl ?_
  refine .run rfl (yMove rfl) rfl rfl ?_
  refine .run rfl (yNilCheckP rfl) rfl rfl ?_
  refine .run rfl (yFieldAddr rfl F78_0) rfl rfl ?_
  refine .run rfl (yFieldAddr rfl F29_2) rfl rfl ?_
  refine .run rfl (yvSame (u := i64 (e : Nat)) (yLoad1 rfl O3 (cOldB (hX.b) rfl)) (by rw [he])) rfl rfl ?_
  refine .run rfl (yvSame (u := .int .u64 ((allE X : Nat) : Int)) (yCall rfl (.c rfl .n) C54 (fun w hw => full_any e w (by omega))) (by rw [← he']; rfl)) rfl rfl ?_
  refine .done ?_
  refine effStep 14 [] (by kernel_rfl) closedSt (hLeft [5, 7, 12, 13] (by kernel_rfl) (.c (fun _ _ hs => hs.ef) (.c (fun _ _ hs => hs.ef) (.c (fun _ _ hs => hs.ef) (.c (fun _ _ hs => hs.ef) .n))))) ?_
  refine .c ?_ .n
  refine effOne rfl (gNone rfl (fCallO rfl (.c rfl (.c rfl (.c rfl .n))) C82 (fun w hw => links_any' nm y X G (allS X) (allE X) w (hX.eff hw) hM (by omega) (by omega)))) ?_
  refine effStep 15 [] (by kernel_rfl) (closedEx fun g => closedSt) (hLeft [] (by kernel_rfl) .n) ?_
  refine .c ?_ .n
  refine effOne rfl (opEx fun g => (gNone rfl (fV (yAssign rfl) rfl))) ?_
  refine effDone (closedEx fun g => closedSt) (hLeft [] (by kernel_rfl) .n) (by kernel_rfl) ?_
  refine trEx fun g => ?_
  refine kThen ?_
  refine kSeq ?_
  refine kDrawE [(5, none), (9, none), (15, none), (19, none)] [] [0, 1, 2, 3, 4, 5, 6, 7, 8, 9, 10, 11, 12, 13, 14, 15, 16, 17, 18, 19, 20, 21] 0 hMix (by kernel_rfl) ?_
  refine .run rfl (yMove rfl) rfl rfl ?_
  refine .run rfl (yMove rfl) rfl rfl ?_
  refine .run rfl (yNilCheckP rfl) rfl rfl ?_
  refine .run rfl (yFieldAddr rfl F78_0) rfl rfl ?_
  refine .run rfl (yFieldAddr rfl F29_2) rfl rfl ?_
  refine .run rfl (yvSame (u := i64 (e : Nat)) (yLoad1 rfl O3 (cOldB (hX.b) rfl)) (by rw [he])) rfl rfl ?_
  refine .run rfl (yMakeFunc (.c rfl .n) .n) rfl rfl ?_
  refine .run rfl (yNilCheckF (thing_m a) rfl) rfl rfl ?_
  refine .run rfl (yMove rfl) rfl rfl ?_
  refine .run rfl (yInvoke rfl (.c rfl .n) (thing_m a) (thing_c a) (fun w hw => thing_at a e w ha (by omega))) rfl rfl ?_
  refine .run rfl (yMove rfl) rfl rfl ?_
  refine .run rfl (yMove rfl) rfl rfl ?_
  refine .run rfl (yNilCheckP rfl) rfl rfl ?_
  refine .run rfl (yFieldAddr rfl F78_0) rfl rfl ?_
  refine .run rfl (yFieldAddr rfl F29_2) rfl rfl ?_
  refine .run rfl (yvSame (u := i64 (e : Nat)) (yLoad1 rfl O3 (cOldB (hX.b) rfl)) (by rw [he])) rfl rfl ?_
  refine .run rfl (yMakeFunc (.c rfl .n) .n) rfl rfl ?_
  refine .run rfl (yNilCheckF (thing_m b) rfl) rfl rfl ?_
  refine .run rfl (yMove rfl) rfl rfl ?_
  refine .run rfl (yInvoke rfl (.c rfl .n) (thing_m b) (thing_c b) (fun w hw => thing_at b e w hb (by omega))) rfl rfl ?_
  refine .run rfl (yAssign rfl) rfl rfl ?_
  refine .run rfl (yAssign rfl) rfl rfl ?_
  refine .done ?_
  refine effDone closedSt (hLeft [5, 9, 15, 19] (by kernel_rfl) (.c (fun _ _ hs => hs.ef) (.c (fun _ _ hs => hs.ef) (.c (fun _ _ hs => hs.ef) (.c (fun _ _ hs => hs.ef) .n))))) (by kernel_rfl) ?_
  refine kThen ?_
  refine kSeq ?_
  by_cases hf : (farP (a.num e) (allL X)).isSome = true
  · refine kRegion rfl ?_
    refine lV (yMove rfl) rfl rfl ?_
    refine lV (yMove rfl) rfl rfl ?_
    refine lE rfl ?_
    refine eCallX rfl (.c rfl (.c rfl .n)) C83 (fun w hw => far_yes (s := a.num e) (OS.rowsE (f := rowL) lnk0 g.2 hw (.d 0 .r)) hlen.1 (by omega) hbig (Option.some_get hf).symm) fun ⟨q, es⟩ hq => ?_
    refine lV (yMove rfl) rfl rfl ?_
    refine lV (yExtract rfl rfl) rfl rfl ?_
    refine lV (yExtract rfl rfl) rfl rfl ?_
    refine lV (yAssign rfl) rfl rfl ?_
    refine lV (yAssign rfl) rfl rfl ?_
    refine lNil ?_
    refine kThen ?_
    refine kSeq ?_
    by_cases hk : (farP (b.num e) (allL X)).isSome = true
    · refine kRegion rfl ?_
      refine lV (yMove rfl) rfl rfl ?_
      refine lV (yMove rfl) rfl rfl ?_
      refine lE rfl ?_
      refine eCallX rfl (.c rfl (.c rfl .n)) C83 (fun w hw => far_yes (s := b.num e) (OS.rowsE (f := rowL) lnk0 g.2 hw (.d 0 (.d 0 .r))) hlen.1 (by omega) hbig (Option.some_get hk).symm) fun ⟨r, fs⟩ hr => ?_
      refine lV (yMove rfl) rfl rfl ?_
      refine lV (yExtract rfl rfl) rfl rfl ?_
      refine lV (yExtract rfl rfl) rfl rfl ?_
      refine lV (yAssign rfl) rfl rfl ?_
      refine lV (yAssign rfl) rfl rfl ?_
      refine lNil ?_
      refine kThen ?_
      refine kSeq ?_
      refine kRegion rfl ?_
      refine lV (yMove rfl) rfl rfl ?_
      refine lV (yMove rfl) rfl rfl ?_
      refine lGY rfl rfl rfl (oV (yMove rfl) rfl ?_)
      refine lV (yPickT rfl rfl) rfl rfl ?_
      refine lV (yCall rfl (.c rfl (.c rfl .n)) C48 (fun w hw => must_ok 10 w)) rfl rfl ?_
      refine lNil ?_
      refine kThen ?_
      refine kSeq ?_
      refine kRegion rfl ?_
      refine lV (yMove rfl) rfl rfl ?_
      refine lV (yMove rfl) rfl rfl ?_
      refine lV (yLookupOk MP132 ZV3 rfl rfl (fun w hw => hw.blkAt 1 rfl)) rfl rfl ?_
      refine lV (yMove rfl) rfl rfl ?_
      refine lV (yExtract rfl rfl) rfl rfl ?_
      refine same (t := 73) (u := i64 ((((farP (a.num e) (allL X)).get hf) (b.num e)).getD 0)) rfl (rep_val hq.1 _) ?_
      refine lV (yExtract rfl rfl) rfl rfl ?_
      refine knownB (t := 74) (c := ((((farP (a.num e) (allL X)).get hf) (b.num e)).isSome)) rfl (hq.1.isSome _) ?_
      refine lV (yAssign rfl) rfl rfl ?_
      refine lV (yAssign rfl) rfl rfl ?_
      refine lNil ?_
      refine kThen ?_
      refine kSeq ?_
      refine kRegion rfl ?_
      refine lV (yMove rfl) rfl rfl ?_
      refine lV (yMove rfl) rfl rfl ?_
      refine lV (yLookup MP132 ZV3 rfl rfl (fun w hw => hw.blkAt 0 rfl)) rfl rfl ?_
      refine same (t := 77) (u := i64 ((((farP (b.num e) (allL X)).get hk) (a.num e)).getD 0)) rfl (rep_val hr.1 _) ?_
      refine lV (yNeg rfl (by have := sml_val hr.2 (by omega) (a.num e); unfold In64; omega)) rfl rfl ?_
      refine lV (yMove rfl) rfl rfl ?_
      refine lV (yBuild (.c rfl (.c rfl .n)) (fun w => B24_0_1 w)) rfl rfl ?_
      refine lV (yMove rfl) rfl rfl ?_
      refine lE rfl ?_
      refine eStoreL 2 rfl rfl rfl rfl K24 rfl (rfl) ?_
      refine lV (yAssign rfl) rfl rfl ?_
      refine lNil ?_
      refine kThen ?_
      refine kRet ?_
      refine fRet rfl (.cA (us := [_, _]) rfl A24 (cOwn 2 rfl rfl) (.t rfl .n)) ?_
      exact fun w' hw' => .inl ⟨_, _, (Option.some_get hf).symm, (Option.some_get hk).symm, endRet rfl w' hw'⟩
    · refine kRegion rfl ?_
      refine lV (yMove rfl) rfl rfl ?_
      refine lV (yMove rfl) rfl rfl ?_
      refine lV (yCall rfl (.c rfl (.c rfl .n)) C83 (fun w hw => far_not (s := b.num e) (OS.rowsE (f := rowL) lnk0 g.2 hw (.d 0 (.d 0 .r))) hlen.1 (by omega) hbig (by simpa using hk))) rfl rfl ?_
      refine lV (yMove rfl) rfl rfl ?_
      refine lV (yExtract rfl rfl) rfl rfl ?_
      refine lV (yExtract rfl rfl) rfl rfl ?_
      refine lV (yAssign rfl) rfl rfl ?_
      refine lV (yAssign rfl) rfl rfl ?_
      refine lNil ?_
      refine kThen ?_
      refine kSeq ?_
      refine kRegion rfl ?_
      refine lV (yMove rfl) rfl rfl ?_
      refine lV (yMove rfl) rfl rfl ?_
      refine lGY rfl rfl rfl (oV (yMove rfl) rfl ?_)
      refine lV (yPickT rfl rfl) rfl rfl ?_
      refine lE rfl ?_
      refine eCallP rfl (.c rfl (.c rfl .n)) C48 (fun w hw => must_pan 10 w) ?_
      refine kThenP ?_
      exact fPan (fun w' hw => .inr ⟨by first | exact .inl (by simpa using hf) | exact .inr (by simpa using hk), endPan rfl w' hw⟩)
  · refine kRegion rfl ?_
    refine lV (yMove rfl) rfl rfl ?_
    refine lV (yMove rfl) rfl rfl ?_
    refine lV (yCall rfl (.c rfl (.c rfl .n)) C83 (fun w hw => far_not (s := a.num e) (OS.rowsE (f := rowL) lnk0 g.2 hw (.d 0 .r)) hlen.1 (by omega) hbig (by simpa using hf))) rfl rfl ?_
    refine lV (yMove rfl) rfl rfl ?_
    refine lV (yExtract rfl rfl) rfl rfl ?_
    refine lV (yExtract rfl rfl) rfl rfl ?_
    refine lV (yAssign rfl) rfl rfl ?_
    refine lV (yAssign rfl) rfl rfl ?_
    refine lNil ?_
    refine kThen ?_
    refine kSeq ?_
    by_cases hk : (farP (b.num e) (allL X)).isSome = true
    · refine kRegion rfl ?_
      refine lV (yMove rfl) rfl rfl ?_
      refine lV (yMove rfl) rfl rfl ?_
      refine lE rfl ?_
      refine eCallX rfl (.c rfl (.c rfl .n)) C83 (fun w hw => far_yes (s := b.num e) (OS.rowsE (f := rowL) lnk0 g.2 hw (.d 0 .r)) hlen.1 (by omega) hbig (Option.some_get hk).symm) fun ⟨r, fs⟩ hr => ?_
      refine lV (yMove rfl) rfl rfl ?_
      refine lV (yExtract rfl rfl) rfl rfl ?_
      refine lV (yExtract rfl rfl) rfl rfl ?_
      refine lV (yAssign rfl) rfl rfl ?_
      refine lV (yAssign rfl) rfl rfl ?_
      refine lNil ?_
      refine kThen ?_
      refine kSeq ?_
      refine kRegion rfl ?_
      refine lV (yMove rfl) rfl rfl ?_
      refine lV (yMove rfl) rfl rfl ?_
      refine lGN rfl rfl rfl rfl rfl ?_
      refine lV (yPickF rfl rfl) rfl rfl ?_
      refine lE rfl ?_
      refine eCallP rfl (.c rfl (.c rfl .n)) C48 (fun w hw => must_pan 10 w) ?_
      refine kThenP ?_
      exact fPan (fun w' hw => .inr ⟨by first | exact .inl (by simpa using hf) | exact .inr (by simpa using hk), endPan rfl w' hw⟩)
    · refine kRegion rfl ?_
      refine lV (yMove rfl) rfl rfl ?_
      refine lV (yMove rfl) rfl rfl ?_
      refine lV (yCall rfl (.c rfl (.c rfl .n)) C83 (fun w hw => far_not (s := b.num e) (OS.rowsE (f := rowL) lnk0 g.2 hw (.d 0 .r)) hlen.1 (by omega) hbig (by simpa using hk))) rfl rfl ?_
      refine lV (yMove rfl) rfl rfl ?_
      refine lV (yExtract rfl rfl) rfl rfl ?_
      refine lV (yExtract rfl rfl) rfl rfl ?_
      refine lV (yAssign rfl) rfl rfl ?_
      refine lV (yAssign rfl) rfl rfl ?_
      refine lNil ?_
      refine kThen ?_
      refine kSeq ?_
      refine kRegion rfl ?_
      refine lV (yMove rfl) rfl rfl ?_
      refine lV (yMove rfl) rfl rfl ?_
      refine lGN rfl rfl rfl rfl rfl ?_
      refine lV (yPickF rfl rfl) rfl rfl ?_
      refine lE rfl ?_
      refine eCallP rfl (.c rfl (.c rfl .n)) C48 (fun w hw => must_pan 10 w) ?_
      refine kThenP ?_
      exact fPan (fun w' hw => .inr ⟨by first | exact .inl (by simpa using hf) | exact .inr (by simpa using hk), endPan rfl w' hw⟩)
end Go.Proofs.Ytiaaidcdoenloaa
