/-
  Walks: Sum, Place, Apart, Once, for each outcome.
-/
import Derived.Test.YtoefcofplkbnkaaWg
namespace Go.Proofs.Ytoefcofplkbnkaa
open ZW

theorem tight_64 {m : Meas} (hM : MeasOk m) (s i k : Nat) (hi : i < 8) (hk : k < 8) : In64 (-tightB m s i k) := by
  have h := Bd.closeP (A := 300000) (by omega) (tells_bd hM s _ (Nat.le_refl _)) 8 (Nat.le_refl _) i k hi hk
  have h6 : (6 : Int) ^ 8 * 300000 = 503884800000 := by decide
  rw [h6] at h
  unfold never at h
  show In64 (-closeP (tellsP (putP freeP 0 1 m.sum) (toldP m) s m.sets.length) 8 i k)
  unfold In64
  omega

theorem truth_2 (y : Loc) (m : Meas) (v : Option Addr) (c : Nat) (l : List Int) (k : Nat) (w : World) (hm : InM w y m) (hM : MeasOk m) (hk : k = l.length) (hv : SlE w v k 1 (intC l)) (hl : l.length ≤ 100) (h : ¬ imgsOk m l) : Calls Try.prog 55 [.agg (measC y m).toArray, .slice v k c].toArray w (Pan w (.iface 106 (.agg [i64 2].toArray))) :=
  (truth_any y m v c l k w hm hM hk hv hl).mono fun _ _ hr => by
    rcases hr with ⟨h1, _⟩ | ⟨_, h2⟩ | ⟨h1, _⟩
    · exact absurd h1 h
    · exact h2
    · exact absurd h1 h
theorem truth_10 (y : Loc) (m : Meas) (v : Option Addr) (c : Nat) (l : List Int) (k : Nat) (w : World) (hm : InM w y m) (hM : MeasOk m) (hk : k = l.length) (hv : SlE w v k 1 (intC l)) (hl : l.length ≤ 100) (h : imgsOk m l) (hd : ¬ diagOk (tightB m (fullS m))) : Calls Try.prog 55 [.agg (measC y m).toArray, .slice v k c].toArray w (Pan w (.iface 106 (.agg [i64 10].toArray))) :=
  (truth_any y m v c l k w hm hM hk hv hl).mono fun _ _ hr => by
    rcases hr with ⟨_, h1, _⟩ | ⟨h1, _⟩ | ⟨_, _, h2⟩
    · exact absurd h1 hd
    · exact absurd h h1
    · exact h2
theorem truth_0 (y : Loc) (m : Meas) (v : Option Addr) (c : Nat) (l : List Int) (k : Nat) (w : World) (hm : InM w y m) (hM : MeasOk m) (hk : k = l.length) (hv : SlE w v k 1 (intC l)) (hl : l.length ≤ 100) (h : imgsOk m l) (hd : diagOk (tightB m (fullS m))) : Calls Try.prog 55 [.agg (measC y m).toArray, .slice v k c].toArray w
    (RetX w (fun x : Nat × Own => OS 1 x.2 ((toldP m).map rowT)) (fun x => .tuple [.pointer (some ⟨x.1, 0, none⟩), .agg (bCells (tightB m (fullS m))).toArray].toArray) (fun _ => []) (openL y m)) :=
  (truth_any y m v c l k w hm hM hk hv hl).mono fun _ _ hr => by
    rcases hr with ⟨_, _, h2⟩ | ⟨h1, _⟩ | ⟨_, h1, _⟩
    · exact h2
    · exact absurd h h1
    · exact absurd hd h1
theorem seen_0 (nm : Nat) (y : Loc) (m : Meas) (g : Own) (v : Option Addr) (c : Nat) (l : List Int) (k : Nat) (w : World) (hms : InMs w nm y m g) (hN : m.sets.length ≤ 12) (hk : k = l.length) (hv : SlE w v k 1 (intC l)) (hl : l.length ≤ 100) (h : ∀ a ∈ l, seenP m a) : Calls Try.prog 59 [.pointer (some ⟨nm, 0, none⟩), .slice v k c].toArray w (Ret w (.tuple #[])) :=
  (seen_any nm y m g v c l k w hms hN hk hv hl).mono fun _ _ hr => by
    rcases hr with ⟨_, h2⟩ | ⟨h1, _⟩
    · exact h2
    · exact absurd h h1
theorem seen_12 (nm : Nat) (y : Loc) (m : Meas) (g : Own) (v : Option Addr) (c : Nat) (l : List Int) (k : Nat) (w : World) (hms : InMs w nm y m g) (hN : m.sets.length ≤ 12) (hk : k = l.length) (hv : SlE w v k 1 (intC l)) (hl : l.length ≤ 100) (h : ¬ ∀ a ∈ l, seenP m a) : Calls Try.prog 59 [.pointer (some ⟨nm, 0, none⟩), .slice v k c].toArray w (Pan w (.iface 106 (.agg [i64 12].toArray))) :=
  (seen_any nm y m g v c l k w hms hN hk hv hl).mono fun _ _ hr => by
    rcases hr with ⟨h1, _⟩ | ⟨_, h2⟩
    · exact absurd h1 h
    · exact h2
abbrev spanB (b : BMat) (f t : Nat) : Int × Int := (-b t f, b f t)

set_option maxRecDepth 100000 in
theorem sum_1 (y : Loc) (m : Meas) (w : World) (hm : InM w y m) (hM : ¬ MeasOk m) : Calls Try.prog 18 [.agg (measC y m).toArray].toArray w (Ret w (outC ((0, 0), 1))) := by
  refine fEnter Try.func18 rfl Try.ntmps18 rfl ?_
  refine kSeq ?_
  refine kRegion rfl ?_
  refine lE rfl ?_
  refine eBoxA rfl fun n1 => ?_
  refine lE rfl ?_
  refine eAlloc Z24 fun n2 => ?_
  refine lE rfl ?_
  refine eAlloc Z33 fun n3 => ?_
  refine lNil ?_
  refine kThen ?_
  refine kSeq ?_
  refine kRegion rfl ?_
  refine lV (yMakeFunc .n (.c rfl .n)) rfl rfl ?_
  refine lE rfl ?_
  refine eDefer rfl .n ?_
  refine lNil ?_
  refine kThen ?_
  refine kSeq ?_
  refine kRegion rfl ?_
  refine lV (yLoadA (vs := [_, _, _, _, _, _, _]) rfl A29 (cOwn 2 rfl rfl)) rfl rfl ?_
  refine lE rfl ?_
  refine eCallP rfl (.c rfl (.c rfl .n)) C55 (fun w hw => truth_bad y m none 0 0 w (hm.eff hw) hM) ?_
  refine kThenP ?_
  refine fPanC 0 D53 C53 rfl rfl (.cA (us := [_, _]) rfl A24 (cOwn 1 rfl rfl) (.c1 rfl O33 (cOwn 0 rfl rfl) .n)) (endRet ?_)
  rfl

set_option maxRecDepth 100000 in
theorem sum_10 (y : Loc) (m : Meas) (w : World) (hm : InM w y m) (hM : MeasOk m) (hd : ¬ diagOk (tightB m (fullS m))) : Calls Try.prog 18 [.agg (measC y m).toArray].toArray w (Ret w (outC ((0, 0), 10))) := by
  refine fEnter Try.func18 rfl Try.ntmps18 rfl ?_
  refine kSeq ?_
  refine kRegion rfl ?_
  refine lE rfl ?_
  refine eBoxA rfl fun n1 => ?_
  refine lE rfl ?_
  refine eAlloc Z24 fun n2 => ?_
  refine lE rfl ?_
  refine eAlloc Z33 fun n3 => ?_
  refine lNil ?_
  refine kThen ?_
  refine kSeq ?_
  refine kRegion rfl ?_
  refine lV (yMakeFunc .n (.c rfl .n)) rfl rfl ?_
  refine lE rfl ?_
  refine eDefer rfl .n ?_
  refine lNil ?_
  refine kThen ?_
  refine kSeq ?_
  refine kRegion rfl ?_
  refine lV (yLoadA (vs := [_, _, _, _, _, _, _]) rfl A29 (cOwn 2 rfl rfl)) rfl rfl ?_
  refine lE rfl ?_
  refine eCallP rfl (.c rfl (.c rfl .n)) C55 (fun w hw => truth_10 y m none 0 [] 0 w (hm.eff hw) hM rfl SlE.nil (by simp) (by simp [imgsOk]) hd) ?_
  refine kThenP ?_
  refine fPanC 0 D53 C53 rfl rfl (.cA (us := [_, _]) rfl A24 (cOwn 1 rfl rfl) (.c1 rfl O33 (cOwn 0 rfl rfl) .n)) (endRet ?_)
  rfl

set_option maxRecDepth 100000 in
theorem sum_0 (y : Loc) (m : Meas) (w : World) (hm : InM w y m) (hM : MeasOk m) (hd : diagOk (tightB m (fullS m))) : Calls Try.prog 18 [.agg (measC y m).toArray].toArray w (Ret w (outC (spanB (tightB m (fullS m)) 0 1, 0))) := by
  refine fEnter Try.func18 rfl Try.ntmps18 rfl ?_
  refine kSeq ?_
  refine kRegion rfl ?_
  refine lE rfl ?_
  refine eBoxA rfl fun n1 => ?_
  refine lE rfl ?_
  refine eAlloc Z24 fun n2 => ?_
  refine lE rfl ?_
  refine eAlloc Z33 fun n3 => ?_
  refine lNil ?_
  refine kThen ?_
  refine kSeq ?_
  refine kRegion rfl ?_
  refine lV (yMakeFunc .n (.c rfl .n)) rfl rfl ?_
  refine lE rfl ?_
  refine eDefer rfl .n ?_
  refine lNil ?_
  refine kThen ?_
  refine kSeq ?_
  refine kRegion rfl ?_
  refine lV (yLoadA (vs := [_, _, _, _, _, _, _]) rfl A29 (cOwn 2 rfl rfl)) rfl rfl ?_
  refine lE rfl ?_
  refine eCallO rfl (.c rfl (.c rfl .n)) C55 (fun w hw => truth_0 y m none 0 [] 0 w (hm.eff hw) hM rfl SlE.nil (by simp) (by simp [imgsOk]) hd) fun x hx => ?_
  obtain ⟨nm, g⟩ := x
  dsimp only at hx ⊢
  refine lV (yMove rfl) rfl rfl ?_
  refine lV (yExtract rfl rfl) rfl rfl ?_
  refine lV (yExtract rfl rfl) rfl rfl ?_
  refine lE rfl ?_
  refine eAlloc Z77 fun n5 => ?_
  refine lV (yAssign rfl) rfl rfl ?_
  refine lE rfl ?_
  refine eStoreL 0 rfl rfl rfl rfl K77 rfl (rfl) ?_
  refine lNil ?_
  rw [bWrAll _ (tightB m (fullS m)) rfl]
  refine kThen ?_
  refine kSeq ?_
  refine kRegion rfl ?_
  refine lV (yCall rfl (.c rfl (.c rfl (.c rfl .n))) C56 (fun w hw => between_any _ n5 0 1 w (hw.blkAt 0 rfl) (by omega) (by omega) (tight_64 hM _ 1 0 (by omega) (by omega)))) rfl rfl ?_
  refine lE rfl ?_
  refine eStoreL 2 rfl rfl rfl rfl K24 rfl (rfl) ?_
  refine lE rfl ?_
  refine eStoreL 1 rfl rfl rfl rfl K33 rfl (rfl) ?_
  refine lNil ?_
  refine kThen ?_
  refine kRet ?_
  refine fRetC D53 C53 rfl (.cA (us := [_, _]) rfl A24 (cOwn 2 rfl rfl) (.c1 rfl O33 (cOwn 1 rfl rfl) .n)) (endRet ?_)
  rfl

set_option maxRecDepth 100000 in
theorem place_1 (y : Loc) (m : Meas) (a : Int) (w : World) (hm : InM w y m) (hM : ¬ MeasOk m) : Calls Try.prog 20 [.agg (measC y m).toArray, i64 a].toArray w (Ret w (outC ((0, 0), 1))) := by
  refine fEnter Try.func20 rfl Try.ntmps20 rfl ?_
  refine kSeq ?_
  refine kRegion rfl ?_
  refine lE rfl ?_
  refine eBoxA rfl fun n2 => ?_
  refine lE rfl ?_
  refine eAlloc Z24 fun n4 => ?_
  refine lE rfl ?_
  refine eAlloc Z33 fun n5 => ?_
  refine lNil ?_
  refine kThen ?_
  refine kSeq ?_
  refine kRegion rfl ?_
  refine lV (yMakeFunc .n (.c rfl .n)) rfl rfl ?_
  refine lE rfl ?_
  refine eDefer rfl .n ?_
  refine lNil ?_
  refine kThen ?_
  refine kSeq ?_
  refine kRegion rfl ?_
  refine lV (yLoadA (vs := [_, _, _, _, _, _, _]) rfl A29 (cOwn 2 rfl rfl)) rfl rfl ?_
  refine lV (yMove rfl) rfl rfl ?_
  refine lE rfl ?_
  refine eBuildSlice (.c rfl .n) (fun w => BS41_1_0 w) fun n12 => ?_
  refine lE rfl ?_
  refine eCallP rfl (.c rfl (.c rfl .n)) C55 (fun w hw => truth_bad y m _ _ _ w (hm.eff hw) hM) ?_
  refine kThenP ?_
  refine fPanC 1 D58 C58 rfl rfl (.cA (us := [_, _]) rfl A24 (cOwn 2 rfl rfl) (.c1 rfl O33 (cOwn 1 rfl rfl) .n)) (endRet ?_)
  rfl

set_option maxRecDepth 100000 in
theorem place_2 (y : Loc) (m : Meas) (a : Int) (w : World) (hm : InM w y m) (hM : MeasOk m) (hI : ¬ (0 ≤ a ∧ a ≤ m.images - 1)) : Calls Try.prog 20 [.agg (measC y m).toArray, i64 a].toArray w (Ret w (outC ((0, 0), 2))) := by
  refine fEnter Try.func20 rfl Try.ntmps20 rfl ?_
  refine kSeq ?_
  refine kRegion rfl ?_
  refine lE rfl ?_
  refine eBoxA rfl fun n2 => ?_
  refine lE rfl ?_
  refine eAlloc Z24 fun n4 => ?_
  refine lE rfl ?_
  refine eAlloc Z33 fun n5 => ?_
  refine lNil ?_
  refine kThen ?_
  refine kSeq ?_
  refine kRegion rfl ?_
  refine lV (yMakeFunc .n (.c rfl .n)) rfl rfl ?_
  refine lE rfl ?_
  refine eDefer rfl .n ?_
  refine lNil ?_
  refine kThen ?_
  refine kSeq ?_
  refine kRegion rfl ?_
  refine lV (yLoadA (vs := [_, _, _, _, _, _, _]) rfl A29 (cOwn 2 rfl rfl)) rfl rfl ?_
  refine lV (yMove rfl) rfl rfl ?_
  refine lE rfl ?_
  refine eBuildSlice (.c rfl .n) (fun w => BS41_1_0 w) fun n12 => ?_
  refine lE rfl ?_
  refine eCallP rfl (.c rfl (.c rfl .n)) C55 (fun w hw => truth_2 y m _ _ [a] 1 w (hm.eff hw) hM rfl (sleRows (f := fun x => [i64 x]) (fun _ => rfl) 0 [a] rfl (hw.blkAt 0 rfl)) (by simp) (fun h => hI (h a (by simp)))) ?_
  refine kThenP ?_
  refine fPanC 1 D58 C58 rfl rfl (.cA (us := [_, _]) rfl A24 (cOwn 2 rfl rfl) (.c1 rfl O33 (cOwn 1 rfl rfl) .n)) (endRet ?_)
  rfl

set_option maxRecDepth 100000 in
theorem place_10 (y : Loc) (m : Meas) (a : Int) (w : World) (hm : InM w y m) (hM : MeasOk m) (hI : 0 ≤ a ∧ a ≤ m.images - 1) (hd : ¬ diagOk (tightB m (fullS m))) : Calls Try.prog 20 [.agg (measC y m).toArray, i64 a].toArray w (Ret w (outC ((0, 0), 10))) := by
  refine fEnter Try.func20 rfl Try.ntmps20 rfl ?_
  refine kSeq ?_
  refine kRegion rfl ?_
  refine lE rfl ?_
  refine eBoxA rfl fun n2 => ?_
  refine lE rfl ?_
  refine eAlloc Z24 fun n4 => ?_
  refine lE rfl ?_
  refine eAlloc Z33 fun n5 => ?_
  refine lNil ?_
  refine kThen ?_
  refine kSeq ?_
  refine kRegion rfl ?_
  refine lV (yMakeFunc .n (.c rfl .n)) rfl rfl ?_
  refine lE rfl ?_
  refine eDefer rfl .n ?_
  refine lNil ?_
  refine kThen ?_
  refine kSeq ?_
  refine kRegion rfl ?_
  refine lV (yLoadA (vs := [_, _, _, _, _, _, _]) rfl A29 (cOwn 2 rfl rfl)) rfl rfl ?_
  refine lV (yMove rfl) rfl rfl ?_
  refine lE rfl ?_
  refine eBuildSlice (.c rfl .n) (fun w => BS41_1_0 w) fun n12 => ?_
  refine lE rfl ?_
  refine eCallP rfl (.c rfl (.c rfl .n)) C55 (fun w hw => truth_10 y m _ _ [a] 1 w (hm.eff hw) hM rfl (sleRows (f := fun x => [i64 x]) (fun _ => rfl) 0 [a] rfl (hw.blkAt 0 rfl)) (by simp) (fun n hn => by simp only [List.mem_singleton] at hn; subst hn; exact hI) hd) ?_
  refine kThenP ?_
  refine fPanC 1 D58 C58 rfl rfl (.cA (us := [_, _]) rfl A24 (cOwn 2 rfl rfl) (.c1 rfl O33 (cOwn 1 rfl rfl) .n)) (endRet ?_)
  rfl

set_option maxRecDepth 100000 in
theorem place_12 (y : Loc) (m : Meas) (a : Int) (w : World) (hm : InM w y m) (hM : MeasOk m) (hI : 0 ≤ a ∧ a ≤ m.images - 1) (hd : diagOk (tightB m (fullS m))) (hs : ¬ seenP m a) : Calls Try.prog 20 [.agg (measC y m).toArray, i64 a].toArray w (Ret w (outC ((0, 0), 12))) := by
  refine fEnter Try.func20 rfl Try.ntmps20 rfl ?_
  refine kSeq ?_
  refine kRegion rfl ?_
  refine lE rfl ?_
  refine eBoxA rfl fun n2 => ?_
  refine lE rfl ?_
  refine eAlloc Z24 fun n4 => ?_
  refine lE rfl ?_
  refine eAlloc Z33 fun n5 => ?_
  refine lNil ?_
  refine kThen ?_
  refine kSeq ?_
  refine kRegion rfl ?_
  refine lV (yMakeFunc .n (.c rfl .n)) rfl rfl ?_
  refine lE rfl ?_
  refine eDefer rfl .n ?_
  refine lNil ?_
  refine kThen ?_
  refine kSeq ?_
  refine kRegion rfl ?_
  refine lV (yLoadA (vs := [_, _, _, _, _, _, _]) rfl A29 (cOwn 2 rfl rfl)) rfl rfl ?_
  refine lV (yMove rfl) rfl rfl ?_
  refine lE rfl ?_
  refine eBuildSlice (.c rfl .n) (fun w => BS41_1_0 w) fun n12 => ?_
  refine lE rfl ?_
  refine eCallO rfl (.c rfl (.c rfl .n)) C55 (fun w hw => truth_0 y m _ _ [a] 1 w (hm.eff hw) hM rfl (sleRows (f := fun x => [i64 x]) (fun _ => rfl) 0 [a] rfl (hw.blkAt 0 rfl)) (by simp) (fun n hn => by simp only [List.mem_singleton] at hn; subst hn; exact hI) hd) fun x hx => ?_
  obtain ⟨nm, g⟩ := x
  dsimp only at hx ⊢
  refine lV (yMove rfl) rfl rfl ?_
  refine lV (yExtract rfl rfl) rfl rfl ?_
  refine lV (yExtract rfl rfl) rfl rfl ?_
  refine lE rfl ?_
  refine eAlloc Z77 fun n7 => ?_
  refine lV (yAssign rfl) rfl rfl ?_
  refine lE rfl ?_
  refine eStoreL 0 rfl rfl rfl rfl K77 rfl (rfl) ?_
  refine lNil ?_
  rw [bWrAll _ (tightB m (fullS m)) rfl]
  refine kThen ?_
  refine kSeq ?_
  refine kRegion rfl ?_
  refine lV (yMove rfl) rfl rfl ?_
  refine lV (yMove rfl) rfl rfl ?_
  refine lE rfl ?_
  refine eBuildSlice (.c rfl .n) (fun w => BS41_1_0 w) fun n18 => ?_
  refine lE rfl ?_
  refine eCallP rfl (.c rfl (.c rfl .n)) C59 (fun w hw => seen_12 nm y m g _ _ [a] 1 w (InMs.mk' hx hm hw (.d 0 (.d 0 (.d 0 (.d 0 (.d 0 (.d 0 (.d 0 .r))))))) (hw.blkAt 6 rfl)) hM.n rfl (sleRows (f := fun x => [i64 x]) (fun _ => rfl) 0 [a] rfl (hw.blkAt 0 rfl)) (by simp) (fun h => hs (h a (by simp)))) ?_
  refine kThenP ?_
  refine fPanC 3 D58 C58 rfl rfl (.cA (us := [_, _]) rfl A24 (cOwn 4 rfl rfl) (.c1 rfl O33 (cOwn 3 rfl rfl) .n)) (endRet ?_)
  rfl

set_option maxRecDepth 100000 in
theorem place_0 (y : Loc) (m : Meas) (a : Int) (w : World) (hm : InM w y m) (hM : MeasOk m) (hI : 0 ≤ a ∧ a ≤ m.images - 1) (hd : diagOk (tightB m (fullS m))) (hs : seenP m a) : Calls Try.prog 20 [.agg (measC y m).toArray, i64 a].toArray w (Ret w (outC (spanB (tightB m (fullS m)) 0 (2 + a.toNat), 0))) := by
  refine fEnter Try.func20 rfl Try.ntmps20 rfl ?_
  refine kSeq ?_
  refine kRegion rfl ?_
  refine lE rfl ?_
  refine eBoxA rfl fun n2 => ?_
  refine lE rfl ?_
  refine eAlloc Z24 fun n4 => ?_
  refine lE rfl ?_
  refine eAlloc Z33 fun n5 => ?_
  refine lNil ?_
  refine kThen ?_
  refine kSeq ?_
  refine kRegion rfl ?_
  refine lV (yMakeFunc .n (.c rfl .n)) rfl rfl ?_
  refine lE rfl ?_
  refine eDefer rfl .n ?_
  refine lNil ?_
  refine kThen ?_
  refine kSeq ?_
  refine kRegion rfl ?_
  refine lV (yLoadA (vs := [_, _, _, _, _, _, _]) rfl A29 (cOwn 2 rfl rfl)) rfl rfl ?_
  refine lV (yMove rfl) rfl rfl ?_
  refine lE rfl ?_
  refine eBuildSlice (.c rfl .n) (fun w => BS41_1_0 w) fun n12 => ?_
  refine lE rfl ?_
  refine eCallO rfl (.c rfl (.c rfl .n)) C55 (fun w hw => truth_0 y m _ _ [a] 1 w (hm.eff hw) hM rfl (sleRows (f := fun x => [i64 x]) (fun _ => rfl) 0 [a] rfl (hw.blkAt 0 rfl)) (by simp) (fun n hn => by simp only [List.mem_singleton] at hn; subst hn; exact hI) hd) fun x hx => ?_
  obtain ⟨nm, g⟩ := x
  dsimp only at hx ⊢
  refine lV (yMove rfl) rfl rfl ?_
  refine lV (yExtract rfl rfl) rfl rfl ?_
  refine lV (yExtract rfl rfl) rfl rfl ?_
  refine lE rfl ?_
  refine eAlloc Z77 fun n7 => ?_
  refine lV (yAssign rfl) rfl rfl ?_
  refine lE rfl ?_
  refine eStoreL 0 rfl rfl rfl rfl K77 rfl (rfl) ?_
  refine lNil ?_
  rw [bWrAll _ (tightB m (fullS m)) rfl]
  refine kThen ?_
  refine kSeq ?_
  refine kRegion rfl ?_
  refine lV (yMove rfl) rfl rfl ?_
  refine lV (yMove rfl) rfl rfl ?_
  refine lE rfl ?_
  refine eBuildSlice (.c rfl .n) (fun w => BS41_1_0 w) fun n18 => ?_
  refine lV (yCall rfl (.c rfl (.c rfl .n)) C59 (fun w hw => seen_0 nm y m g _ _ [a] 1 w (InMs.mk' hx hm hw (.d 0 (.d 0 (.d 0 (.d 0 (.d 0 (.d 0 (.d 0 .r))))))) (hw.blkAt 6 rfl)) hM.n rfl (sleRows (f := fun x => [i64 x]) (fun _ => rfl) 0 [a] rfl (hw.blkAt 0 rfl)) (by simp) (fun n hn => by simp only [List.mem_singleton] at hn; subst hn; exact hs))) rfl rfl ?_
  refine lNil ?_
  refine kThen ?_
  refine kSeq ?_
  refine kRegion rfl ?_
  refine lV (yMove rfl) rfl rfl ?_
  refine lV (yAdd rfl rfl (by have := hM.i; omega)) rfl rfl ?_
  refine same (t := 21) (u := i64 ((2 + a.toNat : Nat) : Int)) rfl (by rw [Int.natCast_add, Int.toNat_of_nonneg hI.1]; rfl) ?_
  refine lV (yCall rfl (.c rfl (.c rfl (.c rfl .n))) C56 (fun w hw => between_any _ n7 0 (2 + a.toNat) w (hw.blkAt 1 rfl) (by omega) (by have := hM.i; omega) (tight_64 hM _ _ _ (by have := hM.i; omega) (by omega)))) rfl rfl ?_
  refine lE rfl ?_
  refine eStoreL 4 rfl rfl rfl rfl K24 rfl (rfl) ?_
  refine lE rfl ?_
  refine eStoreL 3 rfl rfl rfl rfl K33 rfl (rfl) ?_
  refine lNil ?_
  refine kThen ?_
  refine kRet ?_
  refine fRetC D58 C58 rfl (.cA (us := [_, _]) rfl A24 (cOwn 4 rfl rfl) (.c1 rfl O33 (cOwn 3 rfl rfl) .n)) (endRet ?_)
  rfl

set_option maxRecDepth 100000 in
theorem apart_1 (y : Loc) (m : Meas) (a b : Int) (w : World) (hm : InM w y m) (hM : ¬ MeasOk m) : Calls Try.prog 22 [.agg (measC y m).toArray, i64 a, i64 b].toArray w (Ret w (outC ((0, 0), 1))) := by
  refine fEnter Try.func22 rfl Try.ntmps22 rfl ?_
  refine kSeq ?_
  refine kRegion rfl ?_
  refine lE rfl ?_
  refine eBoxA rfl fun n3 => ?_
  refine lE rfl ?_
  refine eAlloc Z24 fun n6 => ?_
  refine lE rfl ?_
  refine eAlloc Z33 fun n7 => ?_
  refine lNil ?_
  refine kThen ?_
  refine kSeq ?_
  refine kRegion rfl ?_
  refine lV (yMakeFunc .n (.c rfl .n)) rfl rfl ?_
  refine lE rfl ?_
  refine eDefer rfl .n ?_
  refine lNil ?_
  refine kThen ?_
  refine kSeq ?_
  refine kRegion rfl ?_
  refine lV (yLoadA (vs := [_, _, _, _, _, _, _]) rfl A29 (cOwn 2 rfl rfl)) rfl rfl ?_
  refine lV (yMove rfl) rfl rfl ?_
  refine lV (yMove rfl) rfl rfl ?_
  refine lE rfl ?_
  refine eBuildSlice (.c rfl (.c rfl .n)) (fun w => BS41_2_0_1 w) fun n15 => ?_
  refine lE rfl ?_
  refine eCallP rfl (.c rfl (.c rfl .n)) C55 (fun w hw => truth_bad y m _ _ _ w (hm.eff hw) hM) ?_
  refine kThenP ?_
  refine fPanC 1 D64 C64 rfl rfl (.cA (us := [_, _]) rfl A24 (cOwn 2 rfl rfl) (.c1 rfl O33 (cOwn 1 rfl rfl) .n)) (endRet ?_)
  rfl

set_option maxRecDepth 100000 in
theorem apart_2 (y : Loc) (m : Meas) (a b : Int) (w : World) (hm : InM w y m) (hM : MeasOk m) (hI : ¬ ((0 ≤ a ∧ a ≤ m.images - 1) ∧ (0 ≤ b ∧ b ≤ m.images - 1))) : Calls Try.prog 22 [.agg (measC y m).toArray, i64 a, i64 b].toArray w (Ret w (outC ((0, 0), 2))) := by
  refine fEnter Try.func22 rfl Try.ntmps22 rfl ?_
  refine kSeq ?_
  refine kRegion rfl ?_
  refine lE rfl ?_
  refine eBoxA rfl fun n3 => ?_
  refine lE rfl ?_
  refine eAlloc Z24 fun n6 => ?_
  refine lE rfl ?_
  refine eAlloc Z33 fun n7 => ?_
  refine lNil ?_
  refine kThen ?_
  refine kSeq ?_
  refine kRegion rfl ?_
  refine lV (yMakeFunc .n (.c rfl .n)) rfl rfl ?_
  refine lE rfl ?_
  refine eDefer rfl .n ?_
  refine lNil ?_
  refine kThen ?_
  refine kSeq ?_
  refine kRegion rfl ?_
  refine lV (yLoadA (vs := [_, _, _, _, _, _, _]) rfl A29 (cOwn 2 rfl rfl)) rfl rfl ?_
  refine lV (yMove rfl) rfl rfl ?_
  refine lV (yMove rfl) rfl rfl ?_
  refine lE rfl ?_
  refine eBuildSlice (.c rfl (.c rfl .n)) (fun w => BS41_2_0_1 w) fun n15 => ?_
  refine lE rfl ?_
  refine eCallP rfl (.c rfl (.c rfl .n)) C55 (fun w hw => truth_2 y m _ _ [a, b] 2 w (hm.eff hw) hM rfl (sleRows (f := fun x => [i64 x]) (fun _ => rfl) 0 [a, b] rfl (hw.blkAt 0 rfl)) (by simp) (fun h => hI ⟨h a (by simp), h b (by simp)⟩)) ?_
  refine kThenP ?_
  refine fPanC 1 D64 C64 rfl rfl (.cA (us := [_, _]) rfl A24 (cOwn 2 rfl rfl) (.c1 rfl O33 (cOwn 1 rfl rfl) .n)) (endRet ?_)
  rfl

set_option maxRecDepth 100000 in
theorem apart_10 (y : Loc) (m : Meas) (a b : Int) (w : World) (hm : InM w y m) (hM : MeasOk m) (hI : ((0 ≤ a ∧ a ≤ m.images - 1) ∧ (0 ≤ b ∧ b ≤ m.images - 1))) (hd : ¬ diagOk (tightB m (fullS m))) : Calls Try.prog 22 [.agg (measC y m).toArray, i64 a, i64 b].toArray w (Ret w (outC ((0, 0), 10))) := by
  refine fEnter Try.func22 rfl Try.ntmps22 rfl ?_
  refine kSeq ?_
  refine kRegion rfl ?_
  refine lE rfl ?_
  refine eBoxA rfl fun n3 => ?_
  refine lE rfl ?_
  refine eAlloc Z24 fun n6 => ?_
  refine lE rfl ?_
  refine eAlloc Z33 fun n7 => ?_
  refine lNil ?_
  refine kThen ?_
  refine kSeq ?_
  refine kRegion rfl ?_
  refine lV (yMakeFunc .n (.c rfl .n)) rfl rfl ?_
  refine lE rfl ?_
  refine eDefer rfl .n ?_
  refine lNil ?_
  refine kThen ?_
  refine kSeq ?_
  refine kRegion rfl ?_
  refine lV (yLoadA (vs := [_, _, _, _, _, _, _]) rfl A29 (cOwn 2 rfl rfl)) rfl rfl ?_
  refine lV (yMove rfl) rfl rfl ?_
  refine lV (yMove rfl) rfl rfl ?_
  refine lE rfl ?_
  refine eBuildSlice (.c rfl (.c rfl .n)) (fun w => BS41_2_0_1 w) fun n15 => ?_
  refine lE rfl ?_
  refine eCallP rfl (.c rfl (.c rfl .n)) C55 (fun w hw => truth_10 y m _ _ [a, b] 2 w (hm.eff hw) hM rfl (sleRows (f := fun x => [i64 x]) (fun _ => rfl) 0 [a, b] rfl (hw.blkAt 0 rfl)) (by simp) (fun n hn => by simp only [List.mem_cons, List.not_mem_nil, or_false] at hn; rcases hn with rfl | rfl; (· exact hI.1); exact hI.2) hd) ?_
  refine kThenP ?_
  refine fPanC 1 D64 C64 rfl rfl (.cA (us := [_, _]) rfl A24 (cOwn 2 rfl rfl) (.c1 rfl O33 (cOwn 1 rfl rfl) .n)) (endRet ?_)
  rfl

set_option maxRecDepth 100000 in
theorem apart_same (y : Loc) (m : Meas) (a b : Int) (w : World) (hm : InM w y m) (hM : MeasOk m) (hI : ((0 ≤ a ∧ a ≤ m.images - 1) ∧ (0 ≤ b ∧ b ≤ m.images - 1))) (hd : diagOk (tightB m (fullS m))) (he : a = b) : Calls Try.prog 22 [.agg (measC y m).toArray, i64 a, i64 b].toArray w (Ret w (outC ((0, 0), 0))) := by
  refine fEnter Try.func22 rfl Try.ntmps22 rfl ?_
  refine kSeq ?_
  refine kRegion rfl ?_
  refine lE rfl ?_
  refine eBoxA rfl fun n3 => ?_
  refine lE rfl ?_
  refine eAlloc Z24 fun n6 => ?_
  refine lE rfl ?_
  refine eAlloc Z33 fun n7 => ?_
  refine lNil ?_
  refine kThen ?_
  refine kSeq ?_
  refine kRegion rfl ?_
  refine lV (yMakeFunc .n (.c rfl .n)) rfl rfl ?_
  refine lE rfl ?_
  refine eDefer rfl .n ?_
  refine lNil ?_
  refine kThen ?_
  refine kSeq ?_
  refine kRegion rfl ?_
  refine lV (yLoadA (vs := [_, _, _, _, _, _, _]) rfl A29 (cOwn 2 rfl rfl)) rfl rfl ?_
  refine lV (yMove rfl) rfl rfl ?_
  refine lV (yMove rfl) rfl rfl ?_
  refine lE rfl ?_
  refine eBuildSlice (.c rfl (.c rfl .n)) (fun w => BS41_2_0_1 w) fun n15 => ?_
  refine lE rfl ?_
  refine eCallO rfl (.c rfl (.c rfl .n)) C55 (fun w hw => truth_0 y m _ _ [a, b] 2 w (hm.eff hw) hM rfl (sleRows (f := fun x => [i64 x]) (fun _ => rfl) 0 [a, b] rfl (hw.blkAt 0 rfl)) (by simp) (fun n hn => by simp only [List.mem_cons, List.not_mem_nil, or_false] at hn; rcases hn with rfl | rfl; (· exact hI.1); exact hI.2) hd) fun x hx => ?_
  obtain ⟨nm, g⟩ := x
  dsimp only at hx ⊢
  refine lV (yMove rfl) rfl rfl ?_
  refine lV (yExtract rfl rfl) rfl rfl ?_
  refine lV (yExtract rfl rfl) rfl rfl ?_
  refine lE rfl ?_
  refine eAlloc Z77 fun n9 => ?_
  refine lV (yAssign rfl) rfl rfl ?_
  refine lE rfl ?_
  refine eStoreL 0 rfl rfl rfl rfl K77 rfl (rfl) ?_
  refine lNil ?_
  rw [bWrAll _ (tightB m (fullS m)) rfl]
  refine kThen ?_
  refine kSeq ?_
  refine kSeq ?_
  refine kRegion rfl ?_
  refine lV (yMove rfl) rfl rfl ?_
  refine lV (yMove rfl) rfl rfl ?_
  refine lV (yEql rfl rfl) rfl rfl ?_
  refine known (t := 21) rfl (he) ?_
  refine lNil ?_
  refine kThen ?_
  refine kIfT rfl ?_
  refine kSeq ?_
  refine kRegion rfl ?_
  refine lV (yBuild .n (fun w => B24_ w)) rfl rfl ?_
  refine lE rfl ?_
  refine eStoreL 3 rfl rfl rfl rfl K24 rfl (rfl) ?_
  refine lE rfl ?_
  refine eStoreL 2 rfl rfl rfl rfl K33 rfl (rfl) ?_
  refine lNil ?_
  refine kThen ?_
  refine kRet ?_
  refine kThenR ?_
  refine fRetC D64 C64 rfl (.cA (us := [_, _]) rfl A24 (cOwn 3 rfl rfl) (.c1 rfl O33 (cOwn 2 rfl rfl) .n)) (endRet ?_)
  rfl

set_option maxRecDepth 100000 in
theorem apart_12 (y : Loc) (m : Meas) (a b : Int) (w : World) (hm : InM w y m) (hM : MeasOk m) (hI : ((0 ≤ a ∧ a ≤ m.images - 1) ∧ (0 ≤ b ∧ b ≤ m.images - 1))) (hd : diagOk (tightB m (fullS m))) (he : a ≠ b) (hs : ¬ (seenP m a ∧ seenP m b)) : Calls Try.prog 22 [.agg (measC y m).toArray, i64 a, i64 b].toArray w (Ret w (outC ((0, 0), 12))) := by
  refine fEnter Try.func22 rfl Try.ntmps22 rfl ?_
  refine kSeq ?_
  refine kRegion rfl ?_
  refine lE rfl ?_
  refine eBoxA rfl fun n3 => ?_
  refine lE rfl ?_
  refine eAlloc Z24 fun n6 => ?_
  refine lE rfl ?_
  refine eAlloc Z33 fun n7 => ?_
  refine lNil ?_
  refine kThen ?_
  refine kSeq ?_
  refine kRegion rfl ?_
  refine lV (yMakeFunc .n (.c rfl .n)) rfl rfl ?_
  refine lE rfl ?_
  refine eDefer rfl .n ?_
  refine lNil ?_
  refine kThen ?_
  refine kSeq ?_
  refine kRegion rfl ?_
  refine lV (yLoadA (vs := [_, _, _, _, _, _, _]) rfl A29 (cOwn 2 rfl rfl)) rfl rfl ?_
  refine lV (yMove rfl) rfl rfl ?_
  refine lV (yMove rfl) rfl rfl ?_
  refine lE rfl ?_
  refine eBuildSlice (.c rfl (.c rfl .n)) (fun w => BS41_2_0_1 w) fun n15 => ?_
  refine lE rfl ?_
  refine eCallO rfl (.c rfl (.c rfl .n)) C55 (fun w hw => truth_0 y m _ _ [a, b] 2 w (hm.eff hw) hM rfl (sleRows (f := fun x => [i64 x]) (fun _ => rfl) 0 [a, b] rfl (hw.blkAt 0 rfl)) (by simp) (fun n hn => by simp only [List.mem_cons, List.not_mem_nil, or_false] at hn; rcases hn with rfl | rfl; (· exact hI.1); exact hI.2) hd) fun x hx => ?_
  obtain ⟨nm, g⟩ := x
  dsimp only at hx ⊢
  refine lV (yMove rfl) rfl rfl ?_
  refine lV (yExtract rfl rfl) rfl rfl ?_
  refine lV (yExtract rfl rfl) rfl rfl ?_
  refine lE rfl ?_
  refine eAlloc Z77 fun n9 => ?_
  refine lV (yAssign rfl) rfl rfl ?_
  refine lE rfl ?_
  refine eStoreL 0 rfl rfl rfl rfl K77 rfl (rfl) ?_
  refine lNil ?_
  rw [bWrAll _ (tightB m (fullS m)) rfl]
  refine kThen ?_
  refine kSeq ?_
  refine kSeq ?_
  refine kRegion rfl ?_
  refine lV (yMove rfl) rfl rfl ?_
  refine lV (yMove rfl) rfl rfl ?_
  refine lV (yEql rfl rfl) rfl rfl ?_
  refine knownN (t := 21) rfl (he) ?_
  refine lNil ?_
  refine kThen ?_
  refine kIfF rfl ?_
  refine kSkip ?_
  refine kThen ?_
  refine kSeq ?_
  refine kRegion rfl ?_
  refine lV (yMove rfl) rfl rfl ?_
  refine lV (yMove rfl) rfl rfl ?_
  refine lV (yMove rfl) rfl rfl ?_
  refine lE rfl ?_
  refine eBuildSlice (.c rfl (.c rfl .n)) (fun w => BS41_2_0_1 w) fun n26 => ?_
  refine lE rfl ?_
  refine eCallP rfl (.c rfl (.c rfl .n)) C59 (fun w hw => seen_12 nm y m g _ _ [a, b] 2 w (InMs.mk' hx hm hw (.d 0 (.d 0 (.d 0 (.d 0 (.d 0 (.d 0 (.d 0 .r))))))) (hw.blkAt 6 rfl)) hM.n rfl (sleRows (f := fun x => [i64 x]) (fun _ => rfl) 0 [a, b] rfl (hw.blkAt 0 rfl)) (by simp) (fun h => hs ⟨h a (by simp), h b (by simp)⟩)) ?_
  refine kThenP ?_
  refine fPanC 3 D64 C64 rfl rfl (.cA (us := [_, _]) rfl A24 (cOwn 4 rfl rfl) (.c1 rfl O33 (cOwn 3 rfl rfl) .n)) (endRet ?_)
  rfl

set_option maxRecDepth 100000 in
theorem apart_0 (y : Loc) (m : Meas) (a b : Int) (w : World) (hm : InM w y m) (hM : MeasOk m) (hI : ((0 ≤ a ∧ a ≤ m.images - 1) ∧ (0 ≤ b ∧ b ≤ m.images - 1))) (hd : diagOk (tightB m (fullS m))) (he : a ≠ b) (hs : seenP m a ∧ seenP m b) : Calls Try.prog 22 [.agg (measC y m).toArray, i64 a, i64 b].toArray w (Ret w (outC (spanB (tightB m (fullS m)) (2 + a.toNat) (2 + b.toNat), 0))) := by
  refine fEnter Try.func22 rfl Try.ntmps22 rfl ?_
  refine kSeq ?_
  refine kRegion rfl ?_
  refine lE rfl ?_
  refine eBoxA rfl fun n3 => ?_
  refine lE rfl ?_
  refine eAlloc Z24 fun n6 => ?_
  refine lE rfl ?_
  refine eAlloc Z33 fun n7 => ?_
  refine lNil ?_
  refine kThen ?_
  refine kSeq ?_
  refine kRegion rfl ?_
  refine lV (yMakeFunc .n (.c rfl .n)) rfl rfl ?_
  refine lE rfl ?_
  refine eDefer rfl .n ?_
  refine lNil ?_
  refine kThen ?_
  refine kSeq ?_
  refine kRegion rfl ?_
  refine lV (yLoadA (vs := [_, _, _, _, _, _, _]) rfl A29 (cOwn 2 rfl rfl)) rfl rfl ?_
  refine lV (yMove rfl) rfl rfl ?_
  refine lV (yMove rfl) rfl rfl ?_
  refine lE rfl ?_
  refine eBuildSlice (.c rfl (.c rfl .n)) (fun w => BS41_2_0_1 w) fun n15 => ?_
  refine lE rfl ?_
  refine eCallO rfl (.c rfl (.c rfl .n)) C55 (fun w hw => truth_0 y m _ _ [a, b] 2 w (hm.eff hw) hM rfl (sleRows (f := fun x => [i64 x]) (fun _ => rfl) 0 [a, b] rfl (hw.blkAt 0 rfl)) (by simp) (fun n hn => by simp only [List.mem_cons, List.not_mem_nil, or_false] at hn; rcases hn with rfl | rfl; (· exact hI.1); exact hI.2) hd) fun x hx => ?_
  obtain ⟨nm, g⟩ := x
  dsimp only at hx ⊢
  refine lV (yMove rfl) rfl rfl ?_
  refine lV (yExtract rfl rfl) rfl rfl ?_
  refine lV (yExtract rfl rfl) rfl rfl ?_
  refine lE rfl ?_
  refine eAlloc Z77 fun n9 => ?_
  refine lV (yAssign rfl) rfl rfl ?_
  refine lE rfl ?_
  refine eStoreL 0 rfl rfl rfl rfl K77 rfl (rfl) ?_
  refine lNil ?_
  rw [bWrAll _ (tightB m (fullS m)) rfl]
  refine kThen ?_
  refine kSeq ?_
  refine kSeq ?_
  refine kRegion rfl ?_
  refine lV (yMove rfl) rfl rfl ?_
  refine lV (yMove rfl) rfl rfl ?_
  refine lV (yEql rfl rfl) rfl rfl ?_
  refine knownN (t := 21) rfl (he) ?_
  refine lNil ?_
  refine kThen ?_
  refine kIfF rfl ?_
  refine kSkip ?_
  refine kThen ?_
  refine kSeq ?_
  refine kRegion rfl ?_
  refine lV (yMove rfl) rfl rfl ?_
  refine lV (yMove rfl) rfl rfl ?_
  refine lV (yMove rfl) rfl rfl ?_
  refine lE rfl ?_
  refine eBuildSlice (.c rfl (.c rfl .n)) (fun w => BS41_2_0_1 w) fun n26 => ?_
  refine lV (yCall rfl (.c rfl (.c rfl .n)) C59 (fun w hw => seen_0 nm y m g _ _ [a, b] 2 w (InMs.mk' hx hm hw (.d 0 (.d 0 (.d 0 (.d 0 (.d 0 (.d 0 (.d 0 .r))))))) (hw.blkAt 6 rfl)) hM.n rfl (sleRows (f := fun x => [i64 x]) (fun _ => rfl) 0 [a, b] rfl (hw.blkAt 0 rfl)) (by simp) (fun n hn => by simp only [List.mem_cons, List.not_mem_nil, or_false] at hn; rcases hn with rfl | rfl; (· exact hs.1); exact hs.2))) rfl rfl ?_
  refine lNil ?_
  refine kThen ?_
  refine kSeq ?_
  refine kRegion rfl ?_
  refine lV (yMove rfl) rfl rfl ?_
  refine lV (yAdd rfl rfl (by have := hM.i; omega)) rfl rfl ?_
  refine same (t := 29) (u := i64 ((2 + a.toNat : Nat) : Int)) rfl (by rw [Int.natCast_add, Int.toNat_of_nonneg hI.1.1]; rfl) ?_
  refine lV (yMove rfl) rfl rfl ?_
  refine lV (yAdd rfl rfl (by have := hM.i; omega)) rfl rfl ?_
  refine same (t := 31) (u := i64 ((2 + b.toNat : Nat) : Int)) rfl (by rw [Int.natCast_add, Int.toNat_of_nonneg hI.2.1]; rfl) ?_
  refine lV (yCall rfl (.c rfl (.c rfl (.c rfl .n))) C56 (fun w hw => between_any _ n9 (2 + a.toNat) (2 + b.toNat) w (hw.blkAt 1 rfl) (by have := hM.i; omega) (by have := hM.i; omega) (tight_64 hM _ _ _ (by have := hM.i; omega) (by have := hM.i; omega)))) rfl rfl ?_
  refine lE rfl ?_
  refine eStoreL 4 rfl rfl rfl rfl K24 rfl (rfl) ?_
  refine lE rfl ?_
  refine eStoreL 3 rfl rfl rfl rfl K33 rfl (rfl) ?_
  refine lNil ?_
  refine kThen ?_
  refine kRet ?_
  refine fRetC D64 C64 rfl (.cA (us := [_, _]) rfl A24 (cOwn 4 rfl rfl) (.c1 rfl O33 (cOwn 3 rfl rfl) .n)) (endRet ?_)
  rfl

end Go.Proofs.Ytoefcofplkbnkaa
