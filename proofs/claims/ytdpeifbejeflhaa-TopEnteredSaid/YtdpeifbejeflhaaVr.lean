/-
  Walk: open.
-/
import Derived.Test.YtdpeifbejeflhaaVq
namespace Go.Proofs.Ytdpeifbejeflhaa
open ZW

theorem wC_one (y : Way) : ∀ x ∈ [wC y], ∀ u ∈ x, u.oneCell' = true := fun x hx u hu => by
  obtain rfl := List.mem_singleton.1 hx
  simp only [List.mem_cons, List.not_mem_nil, or_false] at hu
  rcases hu with rfl | rfl | rfl | rfl | rfl | rfl | rfl | rfl <;> rfl
theorem SubP.app' {A B : Heap} (h : SubP A B) : ∀ P : Heap, SubP (P ++ A) (P ++ B)
  | [] => h
  | _ :: P => .c 0 rfl (SubP.app' h P)
theorem SubP.sw (G R T : Heap) : SubP ((G ++ T) ++ R) ((G ++ R) ++ T) := by
  rw [List.append_assoc, List.append_assoc]
  exact SubP.app' (SubP.comm T R) G
/-- What open hands back: the shelf, its map, its notes, its ways. -/
structure OpR where
  nS : Nat
  nm : Nat
  gn : Own
  gw : Own
abbrev OpR.H (x : OpR) (ys yn : Option Addr × Nat) (s : Shl) : Heap := [(x.nS, shBox ys yn s (osV x.gn (s.ns.map rowN).length) (osV x.gw ((allW s).map wC).length) (.map (some x.nm))), (x.nm, mapO .u64 [])] ++ (osL 98 x.gn ++ osL 61 x.gw)
section
variable (ys yn : Option Addr × Nat) (s : Shl)
set_option maxRecDepth 100000 in
set_option maxHeartbeats 4000000 in
theorem topen_any (w : World) (hm : InSh w ys yn s) (hS : ShlOk s) : Calls Try.prog 15 [.agg (shlC ys yn s).toArray].toArray w
    (RetX w (fun x : OpR => OS 1 x.gn (s.ns.map rowN) ∧ OS 8 x.gw ((allW s).map wC)) (fun x => .pointer (some ⟨x.nS, 0, none⟩)) (fun _ => []) (fun x => x.H ys yn s)) := by
  have hn8 := hS.n
  have hzl := hS.l
  have hp := hS.p
  have hkl := hS.k
  have hal := allW_len hS
  refine fEnter Try.func15 rfl Try.ntmps15 rfl ?_
  refine kSeq ?_
  refine kRegion rfl ?_
  refine lE rfl ?_
  refine eBoxA rfl fun n1 => ?_
  refine lV (yAssign rfl) rfl rfl ?_
  refine lNil ?_
  refine kThen ?_
  refine kSeq ?_
  refine kRegion rfl ?_
  refine lV (yAssign rfl) rfl rfl ?_
  refine lNil ?_
  refine kThen ?_
  refine kSeq ?_
  refine kRegion rfl ?_
  refine lV (yFieldAddr rfl F27_0) rfl rfl ?_
  refine lV (yLoad1 rfl O3 (cOwn 0 rfl rfl)) rfl rfl ?_
  refine lV (yCall rfl (.c rfl (.c rfl (.c rfl .n))) C33 (fun w hw => twithin_any _ _ _ w)) rfl rfl ?_
  refine knownB (t := 10) (c := true) rfl (decide_eq_true hn8) ?_
  refine lV (yMove rfl) rfl rfl ?_
  refine lGY rfl rfl rfl (oV (yFieldAddr rfl F27_1) rfl ?_)
  refine lGY rfl rfl rfl (oV (yLoad1 rfl O22 (cOwn 0 rfl rfl)) rfl ?_)
  refine lGY rfl rfl rfl (oV (yLen rfl S22) rfl ?_)
  refine lGY rfl rfl rfl (oV (yFieldAddr rfl F27_0) rfl ?_)
  refine lGY rfl rfl rfl (oV (yLoad1 rfl O3 (cOwn 0 rfl rfl)) rfl ?_)
  refine lGY rfl rfl rfl (oV (yEql rfl rfl) rfl ?_)
  refine known (t := 17) rfl (by omega) ?_
  refine lV (yPickT rfl rfl) rfl rfl ?_
  refine lV (yMove rfl) rfl rfl ?_
  refine lGY rfl rfl rfl (oV (yFieldAddr rfl F27_1) rfl ?_)
  refine lGY rfl rfl rfl (oV (yLoad1 rfl O22 (cOwn 0 rfl rfl)) rfl ?_)
  refine lGY rfl rfl rfl (oV (yMove rfl) rfl ?_)
  refine lGY rfl rfl rfl (oV (yCall rfl (.c rfl (.c rfl .n)) C35 (fun w hw => containsIn_any _ _ _ 32 [] w s.zs (fun x => !decide (sizeOk x)) rfl (by omega) (hm.z.eff0 hw) C32 (fun w' _ x _ => tbad_any x w'))) rfl ?_)
  refine knownB (t := 23) (c := false) rfl (by rw [List.any_eq_false]; intro x hx; simp [hS.z x hx]) ?_
  refine lGY rfl rfl rfl (oV (yNot rfl) rfl ?_)
  refine lV (yPickT rfl rfl) rfl rfl ?_
  refine lV (yMove rfl) rfl rfl ?_
  refine lGY rfl rfl rfl (oV (yFieldAddr rfl F27_3) rfl ?_)
  refine lGY rfl rfl rfl (oV (yLoad1 rfl O25 (cOwn 0 rfl rfl)) rfl ?_)
  refine lGY rfl rfl rfl (oV (yLen rfl S25) rfl ?_)
  refine lGY rfl rfl rfl (oV (yLeq rfl rfl) rfl ?_)
  refine known (t := 30) rfl (by omega) ?_
  refine lV (yPickT rfl rfl) rfl rfl ?_
  refine lV (yCall rfl (.c rfl (.c rfl .n)) C34 (fun w hw => tmust_ok 1 w)) rfl rfl ?_
  refine lNil ?_
  refine kThen ?_
  refine kSeq ?_
  refine kRegion rfl ?_
  refine lV (yFieldAddr rfl F27_2) rfl rfl ?_
  refine lV (yFieldAddr rfl F24_0) rfl rfl ?_
  refine lV (yLoad1 rfl O3 (cOwn 0 rfl rfl)) rfl rfl ?_
  refine lV (yLeq rfl rfl) rfl rfl ?_
  refine known (t := 36) rfl (by omega) ?_
  refine lV (yMove rfl) rfl rfl ?_
  refine lGY rfl rfl rfl (oV (yFieldAddr rfl F27_2) rfl ?_)
  refine lGY rfl rfl rfl (oV (yFieldAddr rfl F24_0) rfl ?_)
  refine lGY rfl rfl rfl (oV (yLoad1 rfl O3 (cOwn 0 rfl rfl)) rfl ?_)
  refine lGY rfl rfl rfl (oV (yFieldAddr rfl F27_2) rfl ?_)
  refine lGY rfl rfl rfl (oV (yFieldAddr rfl F24_1) rfl ?_)
  refine lGY rfl rfl rfl (oV (yLoad1 rfl O3 (cOwn 0 rfl rfl)) rfl ?_)
  refine lGY rfl rfl rfl (oV (yLeq rfl rfl) rfl ?_)
  refine known (t := 44) rfl (by omega) ?_
  refine lV (yPickT rfl rfl) rfl rfl ?_
  refine lV (yMove rfl) rfl rfl ?_
  refine lGY rfl rfl rfl (oV (yFieldAddr rfl F27_2) rfl ?_)
  refine lGY rfl rfl rfl (oV (yFieldAddr rfl F24_1) rfl ?_)
  refine lGY rfl rfl rfl (oV (yLoad1 rfl O3 (cOwn 0 rfl rfl)) rfl ?_)
  refine lGY rfl rfl rfl (oV (yLeq rfl rfl) rfl ?_)
  refine known (t := 50) rfl (by omega) ?_
  refine lV (yPickT rfl rfl) rfl rfl ?_
  refine lV (yCall rfl (.c rfl (.c rfl .n)) C34 (fun w hw => tmust_ok 1 w)) rfl rfl ?_
  refine lNil ?_
  refine kThen ?_
  refine kSeq ?_
  refine kRegion rfl ?_
  refine lV (yLoadA (vs := [_, _, _, _, _]) rfl A27 (cOwn 0 rfl rfl)) rfl rfl ?_
  refine lE rfl ?_
  refine eMakeMap (k := .u64) fun nm => ?_
  refine lV (yBuild (.c rfl (.c rfl .n)) (fun w => B67_0_3 w)) rfl rfl ?_
  refine lE rfl ?_
  refine eBoxA rfl fun nS => ?_
  refine lE rfl ?_
  refine eAlloc Z51 fun n4 => ?_
  refine lE rfl ?_
  refine eStoreL 0 rfl rfl rfl rfl K51 rfl (rfl) ?_
  refine lNil ?_
  refine kThen ?_
  refine kSeq ?_
  refine kSeq ?_
  refine kRegion rfl ?_
  refine lV (yFieldAddr rfl F27_3) rfl rfl ?_
  refine lV (yLoad1 rfl O25 (cOwn 3 rfl rfl)) rfl rfl ?_
  refine lV (yLen rfl S25) rfl rfl ?_
  refine lV (yMove rfl) rfl rfl ?_
  refine lNil ?_
  refine kThen ?_
  refine kBlock ?_
  refine kLoopX (ι := Nat × Own) (fun q => q.1 ≤ s.ns.length ∧ OS 1 q.2 ((s.ns.take q.1).map rowN)) (fun q => [(60, i64 (q.1 : Nat))]) [(0, _), (1, _), (2, _), (3, _), (8, _), (9, _), (10, _), (11, _), (12, _), (13, _), (14, _), (15, _), (16, _), (17, _), (18, _), (19, _), (20, _), (21, _), (22, _), (23, _), (24, _), (25, _), (26, _), (27, _), (28, _), (29, _), (30, _), (31, _), (32, _), (33, _), (34, _), (35, _), (36, _), (37, _), (38, _), (39, _), (40, _), (41, _), (42, _), (43, _), (44, _), (45, _), (46, _), (47, _), (48, _), (49, _), (50, _), (51, _), (52, _), (53, _), (54, _), (55, _), (56, _), (4, _), (57, _), (58, _), (59, _)] (fun q => []) (fun q => ([(nS, shBox ys yn s (osV q.2 ((s.ns.take q.1).map rowN).length) (.slice none 0 0) (.map (some nm))), (nm, mapO .u64 []), (n4, _)] ++ osL 98 q.2)) [(n1, _)] (fun q => s.ns.length - q.1) (0, .e none) (⟨Nat.zero_le _, OS.empty⟩) rfl (.c rfl .n) (.c rfl (.c rfl (.c rfl (.c rfl (.c rfl (.c rfl (.c rfl (.c rfl (.c rfl (.c rfl (.c rfl (.c rfl (.c rfl (.c rfl (.c rfl (.c rfl (.c rfl (.c rfl (.c rfl (.c rfl (.c rfl (.c rfl (.c rfl (.c rfl (.c rfl (.c rfl (.c rfl (.c rfl (.c rfl (.c rfl (.c rfl (.c rfl (.c rfl (.c rfl (.c rfl (.c rfl (.c rfl (.c rfl (.c rfl (.c rfl (.c rfl (.c rfl (.c rfl (.c rfl (.c rfl (.c rfl (.c rfl (.c rfl (.c rfl (.c rfl (.c rfl (.c rfl (.c rfl (.c rfl (.c rfl (.c rfl (.c rfl .n))))))))))))))))))))))))))))))))))))))))))))))))))))))))) (.c 3 rfl (.c 1 rfl (.c 1 rfl (.c 0 rfl .n)))) ?_
  rintro ⟨i, g⟩ ⟨hi, hg⟩
  dsimp only at hi hg ⊢
  refine kSeq ?_
  refine kRegion rfl ?_
  refine lV (yLss rfl rfl) rfl rfl ?_
  refine lNil ?_
  refine kThen ?_
  refine kSeq ?_
  refine split (t := 61) rfl (fun h61 => ?_) (fun h61 => ?_)
  · refine kIfT rfl ?_
    refine kSkip ?_
    refine kThen ?_
    refine kSeq ?_
    refine kBlock ?_
    refine kSeq ?_
    refine kRegion rfl ?_
    refine lV (yIndexS  rfl rfl S25 (hm.n.r) ((by omega))) rfl rfl ?_
    refine lV (yLoadA (vs := [_, _, _]) rfl A47 (cSl0 (hm.n.r) ((by omega)) rfl)) rfl rfl ?_
    refine lE rfl ?_
    refine eAlloc Z47 fun n6 => ?_
    refine lE rfl ?_
    refine eStoreL 0 rfl rfl rfl rfl K47 rfl (rfl) ?_
    refine lNil ?_
    have hlt : i < s.ns.length := by omega
    obtain ⟨x, hx⟩ : ∃ x, x = s.ns.getD i note0 := ⟨_, rfl⟩
    have hxm : x ∈ s.ns := hx ▸ getD_mem hlt note0
    have hxo := hS.a x hxm
    have hxo' := hxo
    unfold noteOk at hxo'
    rw [← hx]
    have hnl : ((s.ns.take i).map rowN ++ [rowN x]).length = ((s.ns.take (i + 1)).map rowN).length := by rw [take_next _ hlt note0, List.map_append, ← hx]; rfl
    refine kThen ?_
    refine kSeq ?_
    refine kRegion rfl ?_
    refine lV (yLoad1 rfl O51 (cOwn 4 rfl rfl)) rfl rfl ?_
    refine lV (yFieldAddr rfl F47_0) rfl rfl ?_
    refine lV (yLoad1 rfl O3 (cOwn 0 rfl rfl)) rfl rfl ?_
    refine lV (yCall rfl (.c rfl (.c rfl .n)) C36 (fun w hw => isNumber_any ys yn s _ _ _ nS _ w (hw.blkAt 2 rfl) hn8)) rfl rfl ?_
    refine knownB (t := 67) (c := true) rfl (decide_eq_true hxo'.1) ?_
    refine lV (yMove rfl) rfl rfl ?_
    refine lGY rfl rfl rfl (oV (yLoad1 rfl O51 (cOwn 4 rfl rfl)) rfl ?_)
    refine lGY rfl rfl rfl (oV (yFieldAddr rfl F47_1) rfl ?_)
    refine lGY rfl rfl rfl (oV (yLoad1 rfl O3 (cOwn 0 rfl rfl)) rfl ?_)
    refine lGY rfl rfl rfl (oV (yCall rfl (.c rfl (.c rfl .n)) C36 (fun w hw => isNumber_any ys yn s _ _ _ nS _ w (hw.blkAt 2 rfl) hn8)) rfl ?_)
    refine knownB (t := 72) (c := true) rfl (decide_eq_true hxo'.2.1) ?_
    refine lV (yPickT rfl rfl) rfl rfl ?_
    refine lV (yMove rfl) rfl rfl ?_
    refine lGY rfl rfl rfl (oV (yFieldAddr rfl F47_0) rfl ?_)
    refine lGY rfl rfl rfl (oV (yLoad1 rfl O3 (cOwn 0 rfl rfl)) rfl ?_)
    refine lGY rfl rfl rfl (oV (yFieldAddr rfl F47_1) rfl ?_)
    refine lGY rfl rfl rfl (oV (yLoad1 rfl O3 (cOwn 0 rfl rfl)) rfl ?_)
    refine lGY rfl rfl rfl (oV (yNeq rfl rfl) rfl ?_)
    refine known (t := 79) rfl (hxo'.2.2) ?_
    refine lV (yPickT rfl rfl) rfl rfl ?_
    refine lV (yCall rfl (.c rfl (.c rfl .n)) C34 (fun w hw => tmust_ok 1 w)) rfl rfl ?_
    refine lNil ?_
    refine kThen ?_
    refine kSeq ?_
    refine kRegion rfl ?_
    refine lV (yFieldAddr rfl F47_2) rfl rfl ?_
    refine lV (yLoad1 rfl O4 (cOwn 0 rfl rfl)) rfl rfl ?_
    refine splitB (t := 83) rfl (fun h83 => ?_) (fun h83 => ?_)
    · refine lNil ?_
      refine kThen ?_
      refine kIfT rfl ?_
      refine kDrawE [(0, some [4]), (1, some [4]), (4, none), (6, none), (8, none)] [] [0, 1, 2, 3, 4, 5, 6, 7, 8, 9, 10, 13, 14] 3 hMix (by kernel_rfl) ?_
      refine .run rfl (yLoad1 rfl O51 (cOwn 0 rfl rfl)) rfl rfl ?_
      refine .run rfl (yLoad1 rfl O51 (cOwn 0 rfl rfl)) rfl rfl ?_
      refine .run rfl (yNilCheckP rfl) rfl rfl ?_
      refine .run rfl (yFieldAddr rfl F67_1) rfl rfl ?_
      refine .run rfl (yLoad1 rfl O63 (cOwn 2 rfl rfl)) rfl rfl ?_
      refine .run rfl (yFieldAddr rfl F47_0) rfl rfl ?_
      refine .run rfl (yLoad1 rfl O3 (cOwn 0 rfl rfl)) rfl rfl ?_
      refine .run rfl (yFieldAddr rfl F47_1) rfl rfl ?_
      refine .run rfl (yLoad1 rfl O3 (cOwn 0 rfl rfl)) rfl rfl ?_
      refine .run rfl (yBuild (.c rfl (.c rfl .n)) (fun w => B92_0_1 w)) rfl rfl ?_
      refine .run rfl (yvSame (u := noteI x) (yMakeInterface rfl I92) (by rw [noteI, noT, if_pos h83])) rfl rfl ?_
      refine .run rfl (yNilCheckP rfl) rfl rfl ?_
      refine .run rfl (yFieldAddr rfl F67_1) rfl rfl ?_
      refine .done ?_
      refine effStep 11 [] (by kernel_rfl) closedSt (hLeft [0, 1, 4, 6, 8] (by kernel_rfl) (.c (fun _ _ hs => hs.ef.sub (.k rfl (.k rfl (.k rfl (.k rfl (.h rfl .n)))))) (.c (fun _ _ hs => hs.ef.sub (.k rfl (.k rfl (.k rfl (.k rfl (.h rfl .n)))))) (.c (fun _ _ hs => hs.ef) (.c (fun _ _ hs => hs.ef) (.c (fun _ _ hs => hs.ef) .n)))))) ?_
      refine .c ?_ .n
      refine effOne rfl (gNone rfl (fBuildSlice (.c rfl .n) (fun w => BS63_1_0 w))) ?_
      refine effStep 12 [] (by kernel_rfl) (closedEx fun n95 => closedSt) (hLeft [0, 1, 4] (by kernel_rfl) (.c (fun _ _ ⟨n95, hs⟩ => hs.ef.sub (.k rfl (.k rfl (.k rfl (.k rfl (.k rfl (.h rfl .n))))))) (.c (fun _ _ ⟨n95, hs⟩ => hs.ef.sub (.k rfl (.k rfl (.k rfl (.k rfl (.k rfl (.h rfl .n))))))) (.c (fun _ _ ⟨n95, hs⟩ => hs.ef.sub (.k rfl (.h rfl (.h rfl (.h rfl (.h rfl (.h rfl .r))))))) .n)))) ?_
      refine .c ?_ .n
      refine effOne rfl (opEx fun n95 => (gNone rfl (fAppend (gs := g) [(n95, _), (n6, _), (n1, _), (nS, _), (nm, _), (n4, _)] [rowN x] AP63 rfl rfl (.h rfl (.h rfl (.h rfl (.h rfl (.h rfl (.h rfl .r)))))) hg rfl (by simp) (SlN.own 0 rfl rfl) (by simp; rfl) (by simp; omega) (by simp; omega)))) ?_
      refine effStep 15 [] (by kernel_rfl) (closedEx fun n95 => (closedEx fun ha => closedSt)) (hLeft [0, 1] (by kernel_rfl) (.c (fun _ _ ⟨n95, ⟨ha, hs⟩⟩ => hs.ef.sub (.k rfl (.k rfl (.k rfl (.k rfl (.k rfl (.h rfl .n))))))) (.c (fun _ _ ⟨n95, ⟨ha, hs⟩⟩ => hs.ef.sub (.k rfl (.k rfl (.k rfl (.k rfl (.k rfl (.h rfl .n))))))) .n))) ?_
      refine .c ?_ .n
      refine effOne rfl (opEx fun n95 => (opEx fun ha => (gNone rfl (fStoreL 3 rfl rfl rfl rfl K63 rfl (rfl))))) ?_
      refine effDone (closedEx fun n95 => (closedEx fun ha => closedSt)) (hLeft [] (by kernel_rfl) .n) (by kernel_rfl) ?_
      refine trEx fun n95 => ?_
      refine trEx fun ha => ?_
      rw [hnl]
      refine kInN ?_
      refine kThen ?_
      refine kRegion rfl ?_
      refine lV (yAdd rfl rfl (by omega)) rfl rfl ?_
      refine lV (yMove rfl) rfl rfl ?_
      refine lNil ?_
      exact kRoundX (i + 1, ha.1) (⟨by dsimp only; omega, by dsimp only; rw [take_next _ hlt note0, List.map_append, ← hx]; exact ha.2⟩) (by dsimp only; omega) rfl (.c rfl .n) (.c rfl (.c rfl (.c rfl (.c rfl (.c rfl (.c rfl (.c rfl (.c rfl (.c rfl (.c rfl (.c rfl (.c rfl (.c rfl (.c rfl (.c rfl (.c rfl (.c rfl (.c rfl (.c rfl (.c rfl (.c rfl (.c rfl (.c rfl (.c rfl (.c rfl (.c rfl (.c rfl (.c rfl (.c rfl (.c rfl (.c rfl (.c rfl (.c rfl (.c rfl (.c rfl (.c rfl (.c rfl (.c rfl (.c rfl (.c rfl (.c rfl (.c rfl (.c rfl (.c rfl (.c rfl (.c rfl (.c rfl (.c rfl (.c rfl (.c rfl (.c rfl (.c rfl (.c rfl (.c rfl (.c rfl (.c rfl (.c rfl .n))))))))))))))))))))))))))))))))))))))))))))))))))))))))) (.k rfl (.k rfl (.h rfl (.h rfl (.h rfl (.h rfl .r))))))
    · refine lNil ?_
      refine kThen ?_
      refine kIfF rfl ?_
      refine kDrawE [(0, some [4]), (1, some [4]), (4, none), (6, none), (8, none)] [] [0, 1, 2, 3, 4, 5, 6, 7, 8, 9, 10, 13, 14] 3 hMix (by kernel_rfl) ?_
      refine .run rfl (yLoad1 rfl O51 (cOwn 0 rfl rfl)) rfl rfl ?_
      refine .run rfl (yLoad1 rfl O51 (cOwn 0 rfl rfl)) rfl rfl ?_
      refine .run rfl (yNilCheckP rfl) rfl rfl ?_
      refine .run rfl (yFieldAddr rfl F67_1) rfl rfl ?_
      refine .run rfl (yLoad1 rfl O63 (cOwn 2 rfl rfl)) rfl rfl ?_
      refine .run rfl (yFieldAddr rfl F47_0) rfl rfl ?_
      refine .run rfl (yLoad1 rfl O3 (cOwn 0 rfl rfl)) rfl rfl ?_
      refine .run rfl (yFieldAddr rfl F47_1) rfl rfl ?_
      refine .run rfl (yLoad1 rfl O3 (cOwn 0 rfl rfl)) rfl rfl ?_
      refine .run rfl (yBuild (.c rfl (.c rfl .n)) (fun w => B93_0_1 w)) rfl rfl ?_
      refine .run rfl (yvSame (u := noteI x) (yMakeInterface rfl I93) (by rw [noteI, noT, if_neg (by rw [h83]; decide)])) rfl rfl ?_
      refine .run rfl (yNilCheckP rfl) rfl rfl ?_
      refine .run rfl (yFieldAddr rfl F67_1) rfl rfl ?_
      refine .done ?_
      refine effStep 11 [] (by kernel_rfl) closedSt (hLeft [0, 1, 4, 6, 8] (by kernel_rfl) (.c (fun _ _ hs => hs.ef.sub (.k rfl (.k rfl (.k rfl (.k rfl (.h rfl .n)))))) (.c (fun _ _ hs => hs.ef.sub (.k rfl (.k rfl (.k rfl (.k rfl (.h rfl .n)))))) (.c (fun _ _ hs => hs.ef) (.c (fun _ _ hs => hs.ef) (.c (fun _ _ hs => hs.ef) .n)))))) ?_
      refine .c ?_ .n
      refine effOne rfl (gNone rfl (fBuildSlice (.c rfl .n) (fun w => BS63_1_0 w))) ?_
      refine effStep 12 [] (by kernel_rfl) (closedEx fun n110 => closedSt) (hLeft [0, 1, 4] (by kernel_rfl) (.c (fun _ _ ⟨n110, hs⟩ => hs.ef.sub (.k rfl (.k rfl (.k rfl (.k rfl (.k rfl (.h rfl .n))))))) (.c (fun _ _ ⟨n110, hs⟩ => hs.ef.sub (.k rfl (.k rfl (.k rfl (.k rfl (.k rfl (.h rfl .n))))))) (.c (fun _ _ ⟨n110, hs⟩ => hs.ef.sub (.k rfl (.h rfl (.h rfl (.h rfl (.h rfl (.h rfl .r))))))) .n)))) ?_
      refine .c ?_ .n
      refine effOne rfl (opEx fun n110 => (gNone rfl (fAppend (gs := g) [(n110, _), (n6, _), (n1, _), (nS, _), (nm, _), (n4, _)] [rowN x] AP63 rfl rfl (.h rfl (.h rfl (.h rfl (.h rfl (.h rfl (.h rfl .r)))))) hg rfl (by simp) (SlN.own 0 rfl rfl) (by simp; rfl) (by simp; omega) (by simp; omega)))) ?_
      refine effStep 15 [] (by kernel_rfl) (closedEx fun n110 => (closedEx fun hb => closedSt)) (hLeft [0, 1] (by kernel_rfl) (.c (fun _ _ ⟨n110, ⟨hb, hs⟩⟩ => hs.ef.sub (.k rfl (.k rfl (.k rfl (.k rfl (.k rfl (.h rfl .n))))))) (.c (fun _ _ ⟨n110, ⟨hb, hs⟩⟩ => hs.ef.sub (.k rfl (.k rfl (.k rfl (.k rfl (.k rfl (.h rfl .n))))))) .n))) ?_
      refine .c ?_ .n
      refine effOne rfl (opEx fun n110 => (opEx fun hb => (gNone rfl (fStoreL 3 rfl rfl rfl rfl K63 rfl (rfl))))) ?_
      refine effDone (closedEx fun n110 => (closedEx fun hb => closedSt)) (hLeft [] (by kernel_rfl) .n) (by kernel_rfl) ?_
      refine trEx fun n110 => ?_
      refine trEx fun hb => ?_
      rw [hnl]
      refine kInN ?_
      refine kThen ?_
      refine kRegion rfl ?_
      refine lV (yAdd rfl rfl (by omega)) rfl rfl ?_
      refine lV (yMove rfl) rfl rfl ?_
      refine lNil ?_
      exact kRoundX (i + 1, hb.1) (⟨by dsimp only; omega, by dsimp only; rw [take_next _ hlt note0, List.map_append, ← hx]; exact hb.2⟩) (by dsimp only; omega) rfl (.c rfl .n) (.c rfl (.c rfl (.c rfl (.c rfl (.c rfl (.c rfl (.c rfl (.c rfl (.c rfl (.c rfl (.c rfl (.c rfl (.c rfl (.c rfl (.c rfl (.c rfl (.c rfl (.c rfl (.c rfl (.c rfl (.c rfl (.c rfl (.c rfl (.c rfl (.c rfl (.c rfl (.c rfl (.c rfl (.c rfl (.c rfl (.c rfl (.c rfl (.c rfl (.c rfl (.c rfl (.c rfl (.c rfl (.c rfl (.c rfl (.c rfl (.c rfl (.c rfl (.c rfl (.c rfl (.c rfl (.c rfl (.c rfl (.c rfl (.c rfl (.c rfl (.c rfl (.c rfl (.c rfl (.c rfl (.c rfl (.c rfl (.c rfl .n))))))))))))))))))))))))))))))))))))))))))))))))))))))))) (.k rfl (.k rfl (.h rfl (.h rfl (.h rfl (.h rfl .r))))))
  · refine kIfF rfl ?_
    refine kExit ?_
    refine kThenX ?_
    refine kThenX ?_
    refine kInX ?_
    refine kThen ?_
    refine kSeq ?_
    refine kSeq ?_
    obtain rfl : i = s.ns.length := by omega
    rw [List.take_length] at hg ⊢
    refine kRegion rfl ?_
    refine lV (yLoad1 rfl O51 (cOwn 3 rfl rfl)) rfl rfl ?_
    refine lE rfl ?_
    refine eCallX rfl (.c rfl .n) C37 (fun w hw => tall_any nS w) fun nb _ => ?_
    refine lNil ?_
    refine kThen ?_
    refine kBlock ?_
    refine kRangeD ((RdS nS ys yn s)) (.ret) [(nb, _)] (fun i => wV ((allW s).getD i w0)) ((allW s).length) ((allW s).length) (fun i C => ∃ gw : Own, OS 8 gw (((allW s).take i).map wC) ∧ C = [(nS, shBox ys yn s (osV g (s.ns.map rowN).length) (osV gw (((allW s).take i).map wC).length) (.map (some nm))), (nm, mapO .u64 []), (n4, blk [.pointer (some ⟨nS, 0, none⟩)] 51)] ++ (osL 98 g ++ osL 61 gw)) (fun _ => False) ([(nS, shBox ys yn s (osV g (s.ns.map rowN).length) (.slice none 0 0) (.map (some nm))), (nm, mapO .u64 []), (n4, blk [.pointer (some ⟨nS, 0, none⟩)] 51)] ++ osL 98 g) rfl C57 rfl (.h rfl (.k rfl (.h rfl (.h rfl (.h rfl .r))))) (⟨.e none, OS.empty, by rw [show osL 61 (.e none) = [] from rfl, List.append_nil] <;> rfl⟩) (fun i C hC w L hw => by
      obtain ⟨gw, _, rfl⟩ := hC
      have := hw.own (nS, shBox ys yn s (osV g (s.ns.map rowN).length) (osV gw (((allW s).take i).map wC).length) (.map (some nm))) (by simp only [List.nil_append, List.mem_append, List.mem_cons, true_or, or_true])
      exact RdS.of this) (all1_any ys yn s nS w hm hS nb) ?_ ?_ ?_ ?_
    · intro l r i C Z hi hC hr
      obtain ⟨gw, hgw, rfl⟩ := hC
      have htl : ((allW s).take i).length ≤ 43046721 := by rw [List.length_take]; omega
      refine kRegion rfl ?_
      refine lE rfl ?_
      refine eAlloc Z61 fun n7 => ?_
      refine lE rfl ?_
      refine eStoreL 0 rfl rfl rfl rfl K61 rfl (rfl) ?_
      refine lNil ?_
      refine kThen ?_
      refine rBeginI (i := 1) rfl hr.1 ?_
      refine kBlock ?_
      refine kDrawE [(0, some [5]), (1, some [5]), (4, none), (5, none)] [] [0, 1, 2, 3, 4, 5, 8, 9] 3 hMix (by kernel_rfl) ?_
      refine .run rfl (yLoad1 rfl O51 (cOwn 0 rfl rfl)) rfl rfl ?_
      refine .run rfl (yLoad1 rfl O51 (cOwn 0 rfl rfl)) rfl rfl ?_
      refine .run rfl (yNilCheckP rfl) rfl rfl ?_
      refine .run rfl (yFieldAddr rfl F67_2) rfl rfl ?_
      refine .run rfl (yLoad1 rfl O64 (cOwn 3 rfl rfl)) rfl rfl ?_
      refine .run rfl (yLoadA (vs := [_, _, _, _, _, _, _, _]) rfl A61 (cOwn 0 rfl rfl)) rfl rfl ?_
      refine .run rfl (yNilCheckP rfl) rfl rfl ?_
      refine .run rfl (yFieldAddr rfl F67_2) rfl rfl ?_
      refine .done ?_
      refine effStep 6 [] (by kernel_rfl) closedSt (hLeft [0, 1, 4, 5] (by kernel_rfl) (.c (fun _ _ hs => hs.ef.sub (.k rfl (.k rfl (.k rfl (.k rfl (.k rfl (.h rfl .n))))))) (.c (fun _ _ hs => hs.ef.sub (.k rfl (.k rfl (.k rfl (.k rfl (.k rfl (.h rfl .n))))))) (.c (fun _ _ hs => hs.ef) (.c (fun _ _ hs => hs.ef) .n))))) ?_
      refine .c ?_ .n
      refine effOne rfl (gNone rfl (fBuildSlice (.c rfl .n) (fun w => BS64_1_0 w))) ?_
      refine effStep 7 [] (by kernel_rfl) (closedEx fun n124 => closedSt) (hLeft [0, 1, 4] (by kernel_rfl) (.c (fun _ _ ⟨n124, hs⟩ => hs.ef.sub (.k rfl (.k rfl (.k rfl (.k rfl (.k rfl (.k rfl (.h rfl .n)))))))) (.c (fun _ _ ⟨n124, hs⟩ => hs.ef.sub (.k rfl (.k rfl (.k rfl (.k rfl (.k rfl (.k rfl (.h rfl .n)))))))) (.c (fun _ _ ⟨n124, hs⟩ => hs.ef.sub (.k rfl (.h rfl (.h rfl (.h rfl (.h rfl (.h rfl (.h rfl .r)))))))) .n)))) ?_
      refine .c ?_ .n
      refine effOne rfl (opEx fun n124 => (gNone rfl (fAppend (gs := gw) ([(n124, _), (n7, _), (l, _), (nb, _), (nS, _), (nm, _), (n4, _)] ++ (osL 98 g ++ Z)) [wC ((allW s).getD i w0)] AP64 rfl rfl (.h rfl (.h rfl (.h rfl (.h rfl (.h rfl (.h rfl (.h rfl (by exact (show SubP (((osL 98 g ++ Z) ++ osL 61 gw)) (((osL 98 g ++ osL 61 gw) ++ Z)) from SubP.sw _ _ _))))))))) hgw rfl (by simp) (SlN.own 0 rfl rfl) (wC_one _) (by simp; omega) (by simp; omega)))) ?_
      refine effStep 10 [] (by kernel_rfl) (closedEx fun n124 => (closedEx fun hc => closedSt)) (hLeft [0, 1] (by kernel_rfl) (.c (fun _ _ ⟨n124, ⟨hc, hs⟩⟩ => hs.ef.sub (.k rfl (.k rfl (.k rfl (.k rfl (.k rfl (.k rfl (.h rfl .n)))))))) (.c (fun _ _ ⟨n124, ⟨hc, hs⟩⟩ => hs.ef.sub (.k rfl (.k rfl (.k rfl (.k rfl (.k rfl (.k rfl (.h rfl .n)))))))) .n))) ?_
      refine .c ?_ .n
      refine effOne rfl (opEx fun n124 => (opEx fun hc => (gNone rfl (fStoreL 4 rfl rfl rfl rfl K64 rfl (rfl))))) ?_
      refine effDone (closedEx fun n124 => (closedEx fun hc => closedSt)) (hLeft [] (by kernel_rfl) .n) (by kernel_rfl) ?_
      refine trEx fun n124 => ?_
      refine trEx fun hc => ?_
      refine kInN ?_
      exact rNormalI 2 rfl hr ([(nS, shBox ys yn s (osV g (s.ns.map rowN).length) (osV hc.1 (((allW s).take i).map wC ++ [wC ((allW s).getD i w0)]).length) (.map (some nm))), (nm, mapO .u64 []), (n4, blk [.pointer (some ⟨nS, 0, none⟩)] 51)] ++ (osL 98 g ++ osL 61 hc.1)) ⟨hc.1, by rw [take_next _ hi w0, List.map_append]; exact hc.2, by rw [take_next _ hi w0, List.map_append] <;> rfl⟩ (.k rfl (.k rfl (.h rfl (.h rfl (.h rfl (.h rfl (.h rfl (by exact (show SubP (((osL 98 g ++ osL 61 hc.1) ++ Z)) (((osL 98 g ++ Z) ++ osL 61 hc.1)) from SubP.sw _ _ _)))))))))
    · exact fun h => absurd h (Nat.lt_irrefl _)
    · intro _ C hC r l o
      obtain ⟨gw, hgw, rfl⟩ := hC
      rw [List.take_length] at hgw ⊢
      refine kInN ?_
      refine kThen ?_
      refine kSeq ?_
      refine kRegion rfl ?_
      refine lV (yLoad1 rfl O51 (cOwn 5 rfl rfl)) rfl rfl ?_
      refine lV (yAssign rfl) rfl rfl ?_
      refine lNil ?_
      refine kThen ?_
      refine kRet ?_
      refine fMark 1 rfl (.inl rfl) ?_
      refine fRet rfl (.t rfl .n) ?_
      exact endX ⟨nS, nm, g, gw⟩ ⟨hg, hgw⟩ rfl rfl (.k rfl (.k rfl (.k rfl (.h rfl (.h rfl (.k rfl .r))))))
    · exact fun h => absurd h (Nat.lt_irrefl _)
end
end Go.Proofs.Ytdpeifbejeflhaa
