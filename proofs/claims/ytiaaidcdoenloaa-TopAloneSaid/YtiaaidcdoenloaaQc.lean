/-
  Walks: all bounds of a watch.
-/
import Derived.Test.YtiaaidcdoenloaaQb
import Derived.Test.YtiaaidcdoenloaaGr
namespace Go.Proofs.Ytiaaidcdoenloaa
open ZW

set_option maxRecDepth 100000 in
theorem sum_any (a : Option Addr) (c : Nat) (l : List (Int × Int)) (w : World) (hs : SlE w a l.length 2 (errC l)) (hl : ∀ x ∈ l, small x.1 ∧ small x.2) (hn : l.length ≤ 100) :
    Calls Try.prog 106 [.slice a l.length c].toArray w (Ret w (.agg [i64 (sumTo l l.length).1, i64 (sumTo l l.length).2].toArray)) := by
  refine fEnter Try.func106 rfl Try.ntmps106 rfl ?_
  refine kSeq ?_
  refine kRegion rfl ?_
  refine lE rfl ?_
  refine eAlloc Z24 fun n2 => ?_
  refine lNil ?_
  refine kThen ?_
  refine kSeq ?_
  refine kSeq ?_
  refine kRegion rfl ?_
  refine lV (yMove rfl) rfl rfl ?_
  refine lV (yLen rfl S22) rfl rfl ?_
  refine lV (yMove rfl) rfl rfl ?_
  refine lNil ?_
  refine kThen ?_
  refine kBlock ?_
  refine kLoopX (ι := Nat × Int × Int) (fun x => x.1 ≤ l.length ∧ x.2 = sumTo l x.1) (fun x => [(7, i64 (x.1 : Nat))]) [(0, _), (2, _), (5, _), (6, _)] (fun x => []) (fun x => [(n2, blk [i64 x.2.1, i64 x.2.2] 24)]) [] (fun x => l.length - x.1) (0, 0, 0) (⟨Nat.zero_le _, rfl⟩) rfl (.c rfl .n) (.c rfl (.c rfl (.c rfl (.c rfl .n)))) (.c 0 rfl .n) ?_
  rintro ⟨i, s1, s2⟩ ⟨hi, hs2⟩
  dsimp only at hi hs2 ⊢
  refine kSeq ?_
  refine kRegion rfl ?_
  refine lV (yLss rfl rfl) rfl rfl ?_
  refine lNil ?_
  refine kThen ?_
  refine kSeq ?_
  refine split (t := 8) rfl (fun h8 => ?_) (fun h8 => ?_)
  · refine kIfT rfl ?_
    refine kSkip ?_
    refine kThen ?_
    refine kSeq ?_
    refine kBlock ?_
    refine kSeq ?_
    refine kRegion rfl ?_
    refine lV (yIndexS  rfl rfl S22 (hs.r) ((by omega))) rfl rfl ?_
    refine lV (yLoadA (vs := [_, _]) rfl A24 (cSl0 (hs.r) ((by omega)) rfl)) rfl rfl ?_
    refine lE rfl ?_
    refine eAlloc Z24 fun n4 => ?_
    refine lE rfl ?_
    refine eStoreL 0 rfl rfl rfl rfl K24 rfl (rfl) ?_
    refine lNil ?_
    refine kThen ?_
    refine kDrawE [(1, none), (3, none), (6, none), (8, some [0])] [] [0, 1, 2, 3, 4, 5, 6, 7, 8, 9, 10, 12] 2 hMix (by kernel_rfl) ?_
    refine .run rfl (yFieldAddr rfl F24_0) rfl rfl ?_
    refine .run rfl (yLoad1 rfl O3 (cOwn 1 rfl rfl)) rfl rfl ?_
    refine .run rfl (yFieldAddr rfl F24_0) rfl rfl ?_
    refine .run rfl (yLoad1 rfl O3 (cOwn 0 rfl rfl)) rfl rfl ?_
    refine .run rfl (yAdd rfl rfl (by have := sumTo_small hl (i + 1) (by omega); rw [sumTo_succ, ← hs2] at this; dsimp only at this; omega)) rfl rfl ?_
    refine .run rfl (yFieldAddr rfl F24_1) rfl rfl ?_
    refine .run rfl (yLoad1 rfl O3 (cOwn 1 rfl rfl)) rfl rfl ?_
    refine .run rfl (yFieldAddr rfl F24_1) rfl rfl ?_
    refine .run rfl (yLoad1 rfl O3 (cOwn 0 rfl rfl)) rfl rfl ?_
    refine .run rfl (yAdd rfl rfl (by have := sumTo_small hl (i + 1) (by omega); rw [sumTo_succ, ← hs2] at this; dsimp only at this; omega)) rfl rfl ?_
    refine .run rfl (yFieldAddr rfl F24_0) rfl rfl ?_
    refine .run rfl (yFieldAddr rfl F24_1) rfl rfl ?_
    refine .done ?_
    refine effStep 11 [] (by kernel_rfl) closedSt (hLeft [1, 3, 6, 8] (by kernel_rfl) (.c (fun _ _ hs => hs.ef) (.c (fun _ _ hs => hs.ef) (.c (fun _ _ hs => hs.ef) (.c (fun _ _ hs => hs.ef.sub (.c 0 rfl .n)) .n))))) ?_
    refine .c ?_ .n
    refine effOne rfl (gNone rfl (fStoreL 1 rfl rfl rfl rfl K3 rfl (rfl))) ?_
    refine effStep 13 [] (by kernel_rfl) closedSt (hLeft [8] (by kernel_rfl) (.c (fun _ _ hs => hs.ef.sub (.c 0 rfl .n)) .n)) ?_
    refine .c ?_ .n
    refine effOne rfl (gNone rfl (fStoreL 1 rfl rfl rfl rfl K3 rfl (rfl))) ?_
    refine effDone closedSt (hLeft [] (by kernel_rfl) .n) (by kernel_rfl) ?_
    refine kInN ?_
    refine kThen ?_
    refine kRegion rfl ?_
    refine lV (yAdd rfl rfl (by omega)) rfl rfl ?_
    refine lV (yMove rfl) rfl rfl ?_
    refine lNil ?_
    exact kRoundX (i + 1, _, _) (⟨by dsimp only; omega, by rw [sumTo_succ, ← hs2]⟩) (by dsimp only; omega) rfl (.c rfl .n) (.c rfl (.c rfl (.c rfl (.c rfl .n)))) (.c 1 rfl .n)
  · refine kIfF rfl ?_
    refine kExit ?_
    refine kThenX ?_
    refine kThenX ?_
    refine kInX ?_
    refine kThen ?_
    refine kSeq ?_
    refine kRegion rfl ?_
    refine lV (yLoadA (vs := [_, _]) rfl A24 (cOwn 0 rfl rfl)) rfl rfl ?_
    refine lE rfl ?_
    refine eStoreL 0 rfl rfl rfl rfl K24 rfl (rfl) ?_
    refine lNil ?_
    refine kThen ?_
    refine kRet ?_
    refine fRet rfl (.cA (us := [_, _]) rfl A24 (cOwn 0 rfl rfl) .n) (endRet ?_)
    obtain rfl : i = l.length := by omega
    rw [← hs2]; rfl

/-! ### Links -/
abbrev lnk0 : Lnk := (0, 0, 0)
abbrev rowL (x : Lnk) : List Value := [i64 (x.1 : Nat), i64 (x.2.1 : Nat), i64 x.2.2]
theorem rowsL_len (l : List Lnk) : ∀ x ∈ l.map rowL, x.length = 3 := by
  intro x hx; obtain ⟨y, _, rfl⟩ := List.mem_map.1 hx; rfl
theorem rowsL_one (l : List Lnk) : ∀ x ∈ l.map rowL, ∀ u ∈ x, u.oneCell' = true := by
  intro x hx u hu; obtain ⟨y, _, rfl⟩ := List.mem_map.1 hx
  simp only [rowL, List.mem_cons, List.not_mem_nil, or_false] at hu
  rcases hu with rfl | rfl | rfl <;> rfl
/-- The one number is greater than the other one by a number of a span. -/
def tieP (i k : Nat) (s : Int × Int) : List Lnk := [(i, k, s.2), (k, i, -s.1)]

set_option maxRecDepth 100000 in
theorem tie_any (A : Heap) (nl nt nm : Nat) (y : WLoc) (X : Wat) (G gs : Own) (a b : Thing) (s : Int × Int) (e : Nat) (l l' : List Lnk) (hl' : l' = l ++ tieP (a.num e) (b.num e) s) (W w : World)
    (hE : Eff W [] ([(nl, blk [osV gs (l.map rowL).length] 130), (nt, blk [.pointer (some ⟨nm, 0, none⟩)] 73)] ++ (A ++ osL 163 gs)) w) (hX : InWt W nm y X G) (he : X.eyes = (e : Nat)) (he1 : e ≤ 1000) (ha : a.ok) (hb : b.ok) (hs : -1000000 ≤ s.1 ∧ s.1 ≤ 1000000) (hl : l.length ≤ 1000)
    (hg : OS 3 gs (l.map rowL)) :
    Calls Try.prog 104 [thV a, thV b, .agg [i64 s.1, i64 s.2].toArray, .pointer (some ⟨nt, 0, none⟩), .pointer (some ⟨nl, 0, none⟩)].toArray w
      (RetE W [] (fun g' => OS 3 g' (l'.map rowL)) (fun _ => .tuple #[]) (fun g' => [(nl, blk [osV g' (l'.map rowL).length] 130), (nt, blk [.pointer (some ⟨nm, 0, none⟩)] 73)] ++ (A ++ osL 163 g'))) := by
  refine fEnterE hE Try.func104 rfl Try.ntmps104 rfl ?_
  refine kSeq ?_
  refine kRegion rfl ?_
  refine lE rfl ?_
  refine eBoxA rfl fun n7 => ?_
  refine lNil ?_
  refine kThen ?_
  refine kSeq ?_
  refine kDrawE [(1, none), (5, none), (9, none), (11, none), (15, none), (19, none)] [] [0, 1, 2, 3, 4, 5, 6, 7, 8, 9, 10, 11, 12, 13, 14, 15, 16, 17, 18, 19, 20, 21] 0 hMix (by kernel_rfl) ?_
  refine .run rfl (yMove rfl) rfl rfl ?_
  refine .run rfl (yLoad1 rfl O73 (cOwn 2 rfl rfl)) rfl rfl ?_
  refine .run rfl (yNilCheckP rfl) rfl rfl ?_
  refine .run rfl (yFieldAddr rfl F78_0) rfl rfl ?_
  refine .run rfl (yFieldAddr rfl F29_2) rfl rfl ?_
  refine .run rfl (yvSame (u := i64 (e : Nat)) (yLoad1 rfl O3 (cOldB (hX.b) rfl)) (by rw [he])) rfl rfl ?_
  refine .run rfl (yMakeFunc (.c rfl .n) .n) rfl rfl ?_
  refine .run rfl (yNilCheckF (thing_m a) rfl) rfl rfl ?_
  refine .run rfl (yMove rfl) rfl rfl ?_
  refine .run rfl (yInvoke rfl (.c rfl .n) (thing_m a) (thing_c a) (fun w hw => thing_at a e w ha he1)) rfl rfl ?_
  refine .run rfl (yMove rfl) rfl rfl ?_
  refine .run rfl (yLoad1 rfl O73 (cOwn 2 rfl rfl)) rfl rfl ?_
  refine .run rfl (yNilCheckP rfl) rfl rfl ?_
  refine .run rfl (yFieldAddr rfl F78_0) rfl rfl ?_
  refine .run rfl (yFieldAddr rfl F29_2) rfl rfl ?_
  refine .run rfl (yvSame (u := i64 (e : Nat)) (yLoad1 rfl O3 (cOldB (hX.b) rfl)) (by rw [he])) rfl rfl ?_
  refine .run rfl (yMakeFunc (.c rfl .n) .n) rfl rfl ?_
  refine .run rfl (yNilCheckF (thing_m b) rfl) rfl rfl ?_
  refine .run rfl (yMove rfl) rfl rfl ?_
  refine .run rfl (yInvoke rfl (.c rfl .n) (thing_m b) (thing_c b) (fun w hw => thing_at b e w hb he1)) rfl rfl ?_
  refine .run rfl (yAssign rfl) rfl rfl ?_
  refine .run rfl (yAssign rfl) rfl rfl ?_
  refine .done ?_
  refine effDone closedSt (hLeft [1, 5, 9, 11, 15, 19] (by kernel_rfl) (.c (fun _ _ hs => hs.ef) (.c (fun _ _ hs => hs.ef) (.c (fun _ _ hs => hs.ef) (.c (fun _ _ hs => hs.ef) (.c (fun _ _ hs => hs.ef) (.c (fun _ _ hs => hs.ef) .n))))))) (by kernel_rfl) ?_
  refine kThen ?_
  refine kRegion rfl ?_
  refine lV (yLoad1 rfl O130 (cOwn 1 rfl rfl)) rfl rfl ?_
  refine lV (yMove rfl) rfl rfl ?_
  refine lV (yMove rfl) rfl rfl ?_
  refine lV (yFieldAddr rfl F24_1) rfl rfl ?_
  refine lV (yLoad1 rfl O3 (cOwn 0 rfl rfl)) rfl rfl ?_
  refine lV (yBuild (.c rfl (.c rfl (.c rfl .n))) (fun w => B163_0_1_2 w)) rfl rfl ?_
  refine lV (yMove rfl) rfl rfl ?_
  refine lV (yMove rfl) rfl rfl ?_
  refine lV (yFieldAddr rfl F24_0) rfl rfl ?_
  refine lV (yLoad1 rfl O3 (cOwn 0 rfl rfl)) rfl rfl ?_
  refine lV (yNeg rfl (by omega)) rfl rfl ?_
  refine lV (yBuild (.c rfl (.c rfl (.c rfl .n))) (fun w => B163_0_1_2 w)) rfl rfl ?_
  refine lE rfl ?_
  refine eBuildSlice (.c rfl (.c rfl .n)) (fun w => BS130_2_0_1 w) fun n42 => ?_
  refine lE rfl ?_
  refine eAppend (gs := gs) ([(n42, _), (n7, _), (nl, _), (nt, _)] ++ A) ((tieP (a.num e) (b.num e) s).map rowL) AP130 rfl rfl .r hg rfl (rowsL_len _) (SlN.own 0 rfl rfl) (rowsL_one _) (by simp; omega) (by simp; omega) fun g' hg' => ?_
  refine lE rfl ?_
  refine eStoreL 2 rfl rfl rfl rfl K130 rfl (rfl) ?_
  refine lNil ?_
  refine fEnd rfl .n ?_
  exact fun w' hw' => ⟨g', by rw [hl', List.map_append]; exact hg', rfl, by rw [hl', List.map_append]; exact hw'.sub (.d 0 (.d 0 .r))⟩

theorem sum2 (h : Int × Int) : sumTo [(0, 0), h] 2 = h := by simp [sumTo, List.range, List.range.loop]
theorem travel_bd {m : Meas} (hM : ScrewOk m) {n : Int} (hn : readOk m n) : -200 ≤ (travelP m n).1 ∧ (travelP m n).1 ≤ (travelP m n).2 ∧ (travelP m n).2 ≤ 41000 := by
  have h1 := hM.e _ (getD_mem (readOk_lt hn).1 (0, 0))
  have h2 := hM.y
  have h3 := hM.n
  unfold readOk at hn
  unfold spanOk at h1 h2
  simp only [travelP]
  omega
/-- The habit of a measurer, if those of a set have one. -/
def habOf (X : Wat) (E m : Nat) : Int × Int := if E.testBit m = true then X.habit else (0, 0)
def habs (X : Wat) (E n : Nat) : List Lnk := (List.range n).flatMap fun m => tieP 0 (1 + m) (habOf X E m)
def lookLnk (X : Wat) (i : Nat) : List Lnk := tieP (1 + (X.looks.getD i look0).1.toNat) (1 + X.eyes.toNat + (X.looks.getD i look0).2.1.toNat) ((travs X).getD i (0, 0))
def loks (X : Wat) (S n : Nat) : List Lnk := (List.range n).flatMap fun i => if S.testBit i = true then lookLnk X i else []
def linksP (X : Wat) (S E : Nat) : List Lnk := habs X E X.eyes.toNat ++ loks X S X.looks.length
theorem habs_succ (X : Wat) (E n : Nat) : habs X E (n + 1) = habs X E n ++ tieP 0 (1 + n) (habOf X E n) := by simp [habs, List.range_succ]
theorem loks_succ (X : Wat) (S n : Nat) : loks X S (n + 1) = loks X S n ++ (if S.testBit n = true then lookLnk X n else []) := by simp [loks, List.range_succ]
theorem loks_no {X : Wat} {S i : Nat} (h : S.testBit i = false) : loks X S i = loks X S (i + 1) := by rw [loks_succ, if_neg (by rw [h]; decide), List.append_nil]
theorem habs_len (X : Wat) (E : Nat) : ∀ n, (habs X E n).length = 2 * n
  | 0 => rfl
  | n + 1 => by rw [habs_succ, List.length_append, habs_len X E n]; simp [tieP]; omega
theorem loks_len (X : Wat) (S : Nat) : ∀ n, (loks X S n).length ≤ 2 * n
  | 0 => Nat.le_refl _
  | n + 1 => by
    have := loks_len X S n
    rw [loks_succ, List.length_append]
    split
    · simp [lookLnk, tieP]; omega
    · simp; omega

set_option maxRecDepth 100000 in
set_option maxHeartbeats 4000000 in
theorem links_any (nm : Nat) (y : WLoc) (X : Wat) (G : Own) (S E : Nat) (w : World) (hX : InWt w nm y X G) (hM : WatOk X) (hS : S < 2 ^ 63) (hE : E < 2 ^ 63) :
    Calls Try.prog 82 [.pointer (some ⟨nm, 0, none⟩), .int .u64 (S : Nat), .int .u64 (E : Nat)].toArray w
      (RetX w (fun g => OS 3 g ((linksP X S E).map rowL)) (fun g => osV g ((linksP X S E).map rowL).length) (fun _ => []) (fun g => osL 163 g)) := by
  obtain ⟨e, he⟩ : ∃ e : Nat, X.eyes = (e : Nat) := ⟨X.eyes.toNat, by have := hM.e; omega⟩
  have he' : X.eyes.toNat = e := by omega
  have he4 : e ≤ 4 := by have := hM.e; omega
  have hN := hM.n
  have hH := hM.h
  refine fEnter Try.func82 rfl Try.ntmps82 rfl ?_
  refine kSeq ?_
  refine kRegion rfl ?_
  refine lE rfl ?_
  refine eBox1 rfl rfl fun n3 => ?_
  refine lE rfl ?_
  refine eAlloc Z130 fun n6 => ?_
  refine lNil ?_
  refine kThen ?_
  refine kSeq ?_
  refine kRegion rfl ?_
  refine lV (yMakeFunc .n (.c rfl (.c rfl .n))) rfl rfl ?_
  refine lV (yAssign rfl) rfl rfl ?_
  refine lNil ?_
  refine kThen ?_
  refine kSeq ?_
  refine kSeq ?_
  refine kRegion rfl ?_
  refine lV (yLoad1 rfl O73 (cOwn 1 rfl rfl)) rfl rfl ?_
  refine lV (yNilCheckP rfl) rfl rfl ?_
  refine lV (yFieldAddr rfl F78_0) rfl rfl ?_
  refine lV (yFieldAddr rfl F29_2) rfl rfl ?_
  refine lV (yLoad1 rfl O3 (cOldB (hX.b) rfl)) rfl rfl ?_
  refine same (t := 17) (u := i64 (e : Nat)) rfl (by rw [he]) ?_
  refine lV (yMove rfl) rfl rfl ?_
  refine lNil ?_
  refine kThen ?_
  refine kBlock ?_
  refine kLoopX (ι := Nat × Own) (fun x => x.1 ≤ e ∧ OS 3 x.2 ((habs X E x.1).map rowL)) (fun x => [(18, i64 (x.1 : Nat))]) [(0, _), (1, _), (2, _), (3, _), (6, _), (12, _), (7, _), (13, _), (14, _), (15, _), (16, _), (17, _)] (fun x => []) (fun x => ([(n6, blk [osV x.2 ((habs X E x.1).map rowL).length] 130)] ++ osL 163 x.2)) [(n3, _)] (fun x => e - x.1) (0, .e none) (⟨Nat.zero_le _, OS.empty⟩) rfl (.c rfl .n) (.c rfl (.c rfl (.c rfl (.c rfl (.c rfl (.c rfl (.c rfl (.c rfl (.c rfl (.c rfl (.c rfl (.c rfl .n)))))))))))) (.c 1 rfl (.c 0 rfl .n)) ?_
  rintro ⟨m, g⟩ ⟨hm, hg⟩
  dsimp only at hm hg ⊢
  have hlen := habs_len X E m
  refine kSeq ?_
  refine kRegion rfl ?_
  refine lV (yLss rfl rfl) rfl rfl ?_
  refine lNil ?_
  refine kThen ?_
  refine kSeq ?_
  refine split (t := 19) rfl (fun h19 => ?_) (fun h19 => ?_)
  · refine kIfT rfl ?_
    refine kSkip ?_
    refine kThen ?_
    refine kSeq ?_
    refine kBlock ?_
    refine kSeq ?_
    refine kRegion rfl ?_
    refine lV (yMove rfl) rfl rfl ?_
    refine lV (yAssign rfl) rfl rfl ?_
    refine lNil ?_
    refine kThen ?_
    refine kSeq ?_
    refine kRegion rfl ?_
    refine lV (yBuild .n (fun w => B24_ w)) rfl rfl ?_
    refine lE rfl ?_
    refine eAlloc Z24 fun n9 => ?_
    refine lE rfl ?_
    refine eStoreL 0 rfl rfl rfl rfl K24 rfl (rfl) ?_
    refine lNil ?_
    refine kThen ?_
    refine kSeq ?_
    refine kSeq ?_
    refine kRegion rfl ?_
    refine lV (yMove rfl) rfl rfl ?_
    refine lV (yMove rfl) rfl rfl ?_
    refine lV (yCall rfl (.c rfl (.c rfl .n)) C105 (fun w hw => has_any E m w hE (by omega))) rfl rfl ?_
    refine splitB (t := 24) rfl (fun h24 => ?_) (fun h24 => ?_)
    · refine lNil ?_
      refine kThen ?_
      refine kIfT rfl ?_
      refine kDrawE [(0, none), (1, none), (5, none)] [] [0, 1, 2, 3, 4, 5] 3 hMix (by kernel_rfl) ?_
      refine .run rfl (yLoadA (vs := [_, _]) rfl A24 (cOwn 0 rfl rfl)) rfl rfl ?_
      refine .run rfl (yLoad1 rfl O73 (cOwn 1 rfl rfl)) rfl rfl ?_
      refine .run rfl (yNilCheckP rfl) rfl rfl ?_
      refine .run rfl (yFieldAddr rfl F78_0) rfl rfl ?_
      refine .run rfl (yFieldAddr rfl F29_3) rfl rfl ?_
      refine .run rfl (yLoadA (vs := [_, _]) rfl A24 (cOldB (hX.b) rfl)) rfl rfl ?_
      refine .done ?_
      refine effStep 6 [] (by kernel_rfl) closedSt (hLeft [0, 1, 5] (by kernel_rfl) (.c (fun _ _ hs => hs.ef) (.c (fun _ _ hs => hs.ef) (.c (fun _ _ hs => hs.ef) .n)))) ?_
      refine .c ?_ .n
      refine effOne rfl (gNone rfl (fBuildSlice (.c rfl (.c rfl .n)) (fun w => BS22_2_0_1 w))) ?_
      refine effStep 7 [] (by kernel_rfl) (closedEx fun n31 => closedSt) (hLeft [1] (by kernel_rfl) (.c (fun _ _ ⟨n31, hs⟩ => hs.ef.sub (.c 1 rfl (.c 1 rfl (.c 1 rfl (.d 0 .r))))) .n)) ?_
      refine .c ?_ .n
      refine effOne rfl (opEx fun n31 => (gNone rfl (fV (yCall rfl (.c rfl .n) C106 (fun w hw => sum_any _ _ [(0, 0), X.habit] w (sleRows (f := fun x => [i64 x.1, i64 x.2]) (fun _ => rfl) (0, 0) _ rfl (hw.blkAt 0 rfl)) (by
      intro x hx
      have := hM.k
      simp only [List.mem_cons, List.not_mem_nil, or_false] at hx
      rcases hx with rfl | rfl
      · unfold small; omega
      · unfold small; omega) (by simp))) rfl))) ?_
      refine effStep 8 [] (by kernel_rfl) (closedEx fun n31 => closedSt) (hLeft [1] (by kernel_rfl) (.c (fun _ _ ⟨n31, hs⟩ => hs.ef.sub (.c 1 rfl (.c 1 rfl (.c 1 rfl (.d 0 .r))))) .n)) ?_
      refine .c ?_ .n
      refine effOne rfl (opEx fun n31 => (gNone rfl (fStoreL 1 rfl rfl rfl rfl K24 rfl (rfl)))) ?_
      refine effDone (closedEx fun n31 => closedSt) (hLeft [] (by kernel_rfl) .n) (by kernel_rfl) ?_
      refine trEx fun n31 => ?_
      rw [show ([(0, 0), X.habit] : List (Int × Int)).length = 2 from rfl, sum2]
      refine kThen ?_
      refine kRegion rfl ?_
      refine lV (yMove rfl) rfl rfl ?_
      refine lV (yBuild .n (fun w => B82_ w)) rfl rfl ?_
      refine lV (yMakeInterface rfl I82) rfl rfl ?_
      refine lV (yMove rfl) rfl rfl ?_
      refine lV (yBuild (.c rfl .n) (fun w => B84_0 w)) rfl rfl ?_
      refine lV (yMakeInterface rfl I84) rfl rfl ?_
      refine lV (yLoadA (vs := [_, _]) rfl A24 (cOwn 1 rfl rfl)) rfl rfl ?_
      refine lE rfl ?_
      refine eCallE rfl (.c rfl (.c rfl (.c rfl .n))) C104 (fun w hw => tie_any [(n9, _)] n6 n3 nm y X G g .zero (.habit m) X.habit e (habs X E m) (habs X E (m + 1)) (by rw [habs_succ]; unfold habOf; rw [if_pos h24]; rfl) _ w (hw.sub (.c 3 rfl (.c 2 rfl (.c 1 rfl (.d 0 .r))))) hX he (by omega) trivial (show m ≤ 1000 by omega) (by omega) (by omega) hg) fun g' hg' => ?_
      refine lNil ?_
      refine kInN ?_
      refine kThen ?_
      refine kRegion rfl ?_
      refine lV (yAdd rfl rfl (by omega)) rfl rfl ?_
      refine lV (yMove rfl) rfl rfl ?_
      refine lNil ?_
      exact kRoundX (m + 1, g') (⟨by dsimp only; omega, hg'⟩) (by dsimp only; omega) rfl (.c rfl .n) (.c rfl (.c rfl (.c rfl (.c rfl (.c rfl (.c rfl (.c rfl (.c rfl (.c rfl (.c rfl (.c rfl (.c rfl .n)))))))))))) (.c 1 rfl (.c 0 rfl (.d 0 .r)))
    · refine lNil ?_
      refine kThen ?_
      refine kIfF rfl ?_
      refine kSkip ?_
      refine kThen ?_
      refine kRegion rfl ?_
      refine lV (yMove rfl) rfl rfl ?_
      refine lV (yBuild .n (fun w => B82_ w)) rfl rfl ?_
      refine lV (yMakeInterface rfl I82) rfl rfl ?_
      refine lV (yMove rfl) rfl rfl ?_
      refine lV (yBuild (.c rfl .n) (fun w => B84_0 w)) rfl rfl ?_
      refine lV (yMakeInterface rfl I84) rfl rfl ?_
      refine lV (yLoadA (vs := [_, _]) rfl A24 (cOwn 0 rfl rfl)) rfl rfl ?_
      refine lE rfl ?_
      refine eCallE rfl (.c rfl (.c rfl (.c rfl .n))) C104 (fun w hw => tie_any [(n9, _)] n6 n3 nm y X G g .zero (.habit m) (0, 0) e (habs X E m) (habs X E (m + 1)) (by rw [habs_succ]; unfold habOf; rw [if_neg (by rw [h24]; decide)]; rfl) _ w (hw.sub (.c 2 rfl (.c 1 rfl (.c 0 rfl .r)))) hX he (by omega) trivial (show m ≤ 1000 by omega) (by simp) (by omega) hg) fun g' hg' => ?_
      refine lNil ?_
      refine kInN ?_
      refine kThen ?_
      refine kRegion rfl ?_
      refine lV (yAdd rfl rfl (by omega)) rfl rfl ?_
      refine lV (yMove rfl) rfl rfl ?_
      refine lNil ?_
      exact kRoundX (m + 1, g') (⟨by dsimp only; omega, hg'⟩) (by dsimp only; omega) rfl (.c rfl .n) (.c rfl (.c rfl (.c rfl (.c rfl (.c rfl (.c rfl (.c rfl (.c rfl (.c rfl (.c rfl (.c rfl (.c rfl .n)))))))))))) (.c 1 rfl (.c 0 rfl (.d 0 .r)))
  · refine kIfF rfl ?_
    refine kExit ?_
    refine kThenX ?_
    refine kThenX ?_
    refine kInX ?_
    refine kThen ?_
    refine kSeq ?_
    refine kSeq ?_
    obtain rfl : e = m := by omega
    rw [show habs X E e = habs X E e ++ loks X S 0 from by simp [loks]]
    rw [show habs X E e = habs X E e ++ loks X S 0 from by simp [loks]] at hg
    refine kRegion rfl ?_
    refine lV (yLoad1 rfl O73 (cOwn 0 rfl rfl)) rfl rfl ?_
    refine lV (yNilCheckP rfl) rfl rfl ?_
    refine lV (yFieldAddr rfl F78_0) rfl rfl ?_
    refine lV (yFieldAddr rfl F29_4) rfl rfl ?_
    refine lV (yLoad1 rfl O27 (cOldB (hX.b) rfl)) rfl rfl ?_
    refine lV (yLen rfl S27) rfl rfl ?_
    refine lV (yMove rfl) rfl rfl ?_
    refine lNil ?_
    refine kThen ?_
    refine kBlock ?_
    refine kLoopX (ι := Nat × Own) (fun x => x.1 ≤ X.looks.length ∧ OS 3 x.2 ((habs X E e ++ loks X S x.1).map rowL)) (fun x => [(48, i64 (x.1 : Nat))]) [(0, _), (1, _), (2, _), (3, _), (6, _), (12, _), (7, _), (13, _), (14, _), (15, _), (16, _), (17, _), (18, _), (19, _), (42, _), (43, _), (44, _), (45, _), (46, _), (47, _)] (fun x => []) (fun x => ([(n6, blk [osV x.2 ((habs X E e ++ loks X S x.1).map rowL).length] 130)] ++ osL 163 x.2)) [(n3, _)] (fun x => X.looks.length - x.1) (0, g) (⟨Nat.zero_le _, hg⟩) rfl (.c rfl .n) (.c rfl (.c rfl (.c rfl (.c rfl (.c rfl (.c rfl (.c rfl (.c rfl (.c rfl (.c rfl (.c rfl (.c rfl (.c rfl (.c rfl (.c rfl (.c rfl (.c rfl (.c rfl (.c rfl (.c rfl .n)))))))))))))))))))) (.c 0 rfl (.c 0 rfl .r)) ?_
    rintro ⟨i, q⟩ ⟨hi, hq⟩
    dsimp only at hi hq ⊢
    have hlen1 := habs_len X E e
    have hlen2 := loks_len X S i
    refine kSeq ?_
    refine kRegion rfl ?_
    refine lV (yLss rfl rfl) rfl rfl ?_
    refine lNil ?_
    refine kThen ?_
    refine kSeq ?_
    refine split (t := 49) rfl (fun h49 => ?_) (fun h49 => ?_)
    · refine kIfT rfl ?_
      refine kSkip ?_
      refine kThen ?_
      refine kSeq ?_
      refine kBlock ?_
      refine kSeq ?_
      refine kRegion rfl ?_
      refine lV (yMove rfl) rfl rfl ?_
      refine lV (yIndexS  rfl rfl S27 (hX.m.l.r) ((by omega))) rfl rfl ?_
      refine lV (yLoadA (vs := [_, _, _]) rfl A47 (cSl0 (hX.m.l.r) ((by omega)) rfl)) rfl rfl ?_
      refine lE rfl ?_
      refine eAlloc Z47 fun n11 => ?_
      refine lV (yAssign rfl) rfl rfl ?_
      refine lE rfl ?_
      refine eStoreL 0 rfl rfl rfl rfl K47 rfl (rfl) ?_
      refine lNil ?_
      refine kThen ?_
      refine kSeq ?_
      refine kRegion rfl ?_
      refine lV (yMove rfl) rfl rfl ?_
      refine lV (yMove rfl) rfl rfl ?_
      refine lV (yCall rfl (.c rfl (.c rfl .n)) C105 (fun w hw => has_any S i w hS (by omega))) rfl rfl ?_
      refine splitB (t := 55) rfl (fun h55 => ?_) (fun h55 => ?_)
      · have hlk := hM.l _ (getD_mem (i := i) (by omega) look0)
        have htb := travel_bd hM.s hlk.1
        rw [← travs_get X (by omega)] at htb
        have hlk2 := hlk.2
        have hI := hM.i
        refine lNil ?_
        refine kThen ?_
        refine kIfT rfl ?_
        refine kDrawE [(2, none), (6, none), (9, some [1]), (12, none), (14, none), (15, none)] [] [0, 1, 2, 3, 4, 5, 6, 7, 8, 9, 10, 11, 12, 13, 14, 15] 1 hMix (by kernel_rfl) ?_
        refine .run rfl (yMove rfl) rfl rfl ?_
        refine .run rfl (yFieldAddr rfl F47_0) rfl rfl ?_
        refine .run rfl (yvSame (u := i64 (((X.looks.getD i look0).1.toNat : Nat) : Int)) (yLoad1 rfl O3 (cOwn 0 rfl rfl)) (by rw [Int.toNat_of_nonneg (by omega)])) rfl rfl ?_
        refine .run rfl (yBuild (.c rfl .n) (fun w => B84_0 w)) rfl rfl ?_
        refine .run rfl (yMakeInterface rfl I84) rfl rfl ?_
        refine .run rfl (yFieldAddr rfl F47_1) rfl rfl ?_
        refine .run rfl (yvSame (u := i64 (((X.looks.getD i look0).2.1.toNat : Nat) : Int)) (yLoad1 rfl O3 (cOwn 0 rfl rfl)) (by rw [Int.toNat_of_nonneg (by omega)])) rfl rfl ?_
        refine .run rfl (yBuild (.c rfl .n) (fun w => B90_0 w)) rfl rfl ?_
        refine .run rfl (yMakeInterface rfl I90) rfl rfl ?_
        refine .run rfl (yLoad1 rfl O73 (cOwn 0 rfl rfl)) rfl rfl ?_
        refine .run rfl (yNilCheckP rfl) rfl rfl ?_
        refine .run rfl (yFieldAddr rfl F78_1) rfl rfl ?_
        refine .run rfl (yLoad1 rfl O22 (cOldB (hX.b) rfl)) rfl rfl ?_
        refine .run rfl (yMove rfl) rfl rfl ?_
        refine .run rfl (yIndexS  rfl rfl S22 (hX.t.r) ((by omega))) rfl rfl ?_
        refine .run rfl (yLoadA (vs := [_, _]) rfl A24 (cSl0 (hX.t.r) ((by omega)) rfl)) rfl rfl ?_
        refine .done ?_
        refine effStep 16 [] (by kernel_rfl) closedSt (hLeft [2, 6, 9, 12, 14, 15] (by kernel_rfl) (.c (fun _ _ hs => hs.ef) (.c (fun _ _ hs => hs.ef) (.c (fun _ _ hs => hs.ef.sub (.c 1 rfl .n)) (.c (fun _ _ hs => hs.ef) (.c (fun _ _ hs => hs.ef) (.c (fun _ _ hs => hs.ef) .n))))))) ?_
        refine .c ?_ .n
        refine effOne rfl (gNone rfl (fCallE rfl (.c rfl (.c rfl (.c rfl .n))) C104 (fun w hw => tie_any [(n11, _)] n6 n3 nm y X G q (.habit (X.looks.getD i look0).1.toNat) (.place (X.looks.getD i look0).2.1.toNat) ((travs X).getD i (0, 0)) e (habs X E e ++ loks X S i) (habs X E e ++ loks X S (i + 1)) (by rw [loks_succ, if_pos h55, List.append_assoc]; unfold lookLnk; rw [he']; rfl) _ w (hw.sub (.c 2 rfl (.c 1 rfl (.c 0 rfl .r)))) hX he (by omega) (show (X.looks.getD i look0).1.toNat ≤ 1000 by omega) (show (X.looks.getD i look0).2.1.toNat ≤ 1000 by omega) (by omega) (by rw [List.length_append]; omega) hq))) ?_
        refine effDone (closedEx fun h => closedSt) (hLeft [9] (by kernel_rfl) (.c (fun _ _ ⟨h, hs⟩ => hs.ef.sub (.c 1 rfl .n)) .n)) (by kernel_rfl) ?_
        refine trEx fun h => ?_
        refine kInN ?_
        refine kThen ?_
        refine kRegion rfl ?_
        refine lV (yAdd rfl rfl (by omega)) rfl rfl ?_
        refine lV (yMove rfl) rfl rfl ?_
        refine lNil ?_
        exact kRoundX (i + 1, h.1) (⟨by dsimp only; omega, by first | exact h.2 | exact (loks_no h55) ▸ hq⟩) (by dsimp only; omega) rfl (.c rfl .n) (.c rfl (.c rfl (.c rfl (.c rfl (.c rfl (.c rfl (.c rfl (.c rfl (.c rfl (.c rfl (.c rfl (.c rfl (.c rfl (.c rfl (.c rfl (.c rfl (.c rfl (.c rfl (.c rfl (.c rfl .n)))))))))))))))))))) (.c 1 rfl (.c 0 rfl (.d 0 .r)))
      · rw [loks_no h55]
        refine lNil ?_
        refine kThen ?_
        refine kIfF rfl ?_
        refine kSkip ?_
        refine kInN ?_
        refine kThen ?_
        refine kRegion rfl ?_
        refine lV (yAdd rfl rfl (by omega)) rfl rfl ?_
        refine lV (yMove rfl) rfl rfl ?_
        refine lNil ?_
        exact kRoundX (i + 1, q) (⟨by dsimp only; omega, by first | exact h.2 | exact (loks_no h55) ▸ hq⟩) (by dsimp only; omega) rfl (.c rfl .n) (.c rfl (.c rfl (.c rfl (.c rfl (.c rfl (.c rfl (.c rfl (.c rfl (.c rfl (.c rfl (.c rfl (.c rfl (.c rfl (.c rfl (.c rfl (.c rfl (.c rfl (.c rfl (.c rfl (.c rfl .n)))))))))))))))))))) (.c 1 rfl (.c 1 rfl (.d 0 .r)))
    · refine kIfF rfl ?_
      refine kExit ?_
      refine kThenX ?_
      refine kThenX ?_
      refine kInX ?_
      refine kThen ?_
      refine kSeq ?_
      refine kRegion rfl ?_
      refine lV (yLoad1 rfl O130 (cOwn 1 rfl rfl)) rfl rfl ?_
      refine lE rfl ?_
      refine eStoreL 1 rfl rfl rfl rfl K130 rfl (rfl) ?_
      refine lNil ?_
      refine kThen ?_
      refine kRet ?_
      refine fRet rfl (.c1 rfl O130 (cOwn 1 rfl rfl) .n) ?_
      obtain rfl : i = X.looks.length := by omega
      have hq' : OS 3 q ((linksP X S E).map rowL) := by unfold linksP; rw [he']; exact hq
      exact endX q hq' (by unfold linksP; rw [he']; rfl) rfl (.d 0 (.d 0 .r))
end Go.Proofs.Ytiaaidcdoenloaa
