/-
  Walks: how far apart the document says two stars are.
-/
import Derived.Test.YtlcdohhhhlhpmaaJf
namespace Go.Proofs.Ytlcdohhhhlhpmaa
open ZW

/-- How far apart two stars are, with a scale and a corner. -/
abbrev bfV (p : Plt) (m n : Nat) (d : Bool) (s x : Int) : Int × Int := ((placeP d (p.st.getD n star0) s x).1 - (placeP d (p.st.getD m star0) s x).2, (placeP d (p.st.getD n star0) s x).2 - (placeP d (p.st.getD m star0) s x).1)
def bfF (p : Plt) (m n : Nat) (d : Bool) (s c : Int) (i : Nat) : Int × Int := bfV p m n d s (c + (i : Int))
def bcP (p : Plt) (d : Bool) (s : Int) : Int × Int := if knownP p = 0 then (0, 0) else cornP p d s (knownP p)
def btV (p : Plt) (m n : Nat) (d : Bool) (s : Int) : Int × Int := hullF (bfF p m n d s (bcP p d s).1) ((bcP p d s).2 - (bcP p d s).1 + 1).toNat
set_option maxRecDepth 100000 in
set_option maxHeartbeats 4000000 in
theorem rbetween_0 (y : Option Addr × Nat) (p : Plt) (m n : Nat) (s : Int) (d : Bool) (w : World) (hm : InP w y p) (hp : PltOk p) (hmn : m < p.st.length ∧ n < p.st.length) (hs : s ∈ scalesP p (knownP p)) (hk : knownP p = 0) :
    Calls Try.prog 71 [.agg (pltC y p).toArray, i64 (m : Nat), i64 (n : Nat), i64 s, .bool d].toArray w (Ret w (.agg (rowE (btV p m n d s)).toArray)) := by
  have hl := hp.n
  have hsc := mem_sc hp hs
  have hc : bcP p d s = ((0 : Int), (0 : Int)) := by unfold bcP; rw [if_pos hk]
  have hbt : btV p m n d s = hullF (bfF p m n d s ((0 : Int), (0 : Int)).1) (((0 : Int), (0 : Int)).2 - ((0 : Int), (0 : Int)).1 + 1).toNat := by unfold btV; rw [hc]
  obtain ⟨c, hcc⟩ : ∃ c : Int × Int, c = ((0 : Int), (0 : Int)) := ⟨_, rfl⟩
  have hbd : (-1099511627776 ≤ c.1 ∧ c.1 ≤ 1099511627776) ∧ -1099511627776 ≤ c.2 ∧ c.2 ≤ 1099511627776 := by rw [hcc]; decide
  have hle : c.1 ≤ c.2 := by rw [hcc]; decide
  have hom := hp.s _ (getD_mem hmn.1 star0)
  have hon := hp.s _ (getD_mem hmn.2 star0)
  rw [hbt, ← hcc]
  refine fEnter Try.func71 rfl Try.ntmps71 rfl ?_
  refine kSeq ?_
  refine kRegion rfl ?_
  refine lE rfl ?_
  refine eBoxA rfl fun n5 => ?_
  refine lE rfl ?_
  refine eAlloc Z23 fun n10 => ?_
  refine lNil ?_
  refine kThen ?_
  refine kSeq ?_
  refine kDrawE [(0, none), (1, none), (2, none), (5, none)] [] [0, 1, 2, 3, 4, 5] 2 hMix (by kernel_rfl) ?_
  refine .run rfl (yLoadA (vs := [_, _, _]) rfl A26 (cOwn 1 rfl rfl)) rfl rfl ?_
  refine .run rfl (yLoadA (vs := [_, _, _]) rfl A26 (cOwn 1 rfl rfl)) rfl rfl ?_
  refine .run rfl (yCall rfl (.c rfl .n) C38 (fun w hw => rknown_any y p w (hm.eff0 hw) (by omega))) rfl rfl ?_
  refine .run rfl (yMove rfl) rfl rfl ?_
  refine .run rfl (yMove rfl) rfl rfl ?_
  refine .run rfl (yCall rfl (.c rfl (.c rfl (.c rfl (.c rfl .n)))) C62 (fun w hw => rcorner_any y p d s (knownP p) w (hm.eff0 hw) hp (by omega) (known_ok p))) rfl rfl ?_
  refine .done ?_
  refine effStep 6 [] (by kernel_rfl) closedSt (hLeft [0, 1, 2, 5] (by kernel_rfl) (.c (fun _ _ hs => hs.ef) (.c (fun _ _ hs => hs.ef) (.c (fun _ _ hs => hs.ef) (.c (fun _ _ hs => hs.ef) .n))))) ?_
  refine .c ?_ .n
  refine effOne rfl (gNone rfl (fAlloc Z23)) ?_
  refine effStep 7 [] (by kernel_rfl) (closedEx fun n11 => closedSt) (hLeft [0, 1, 2, 5] (by kernel_rfl) (.c (fun _ _ ⟨n11, hs⟩ => hs.ef.sub (.c 1 rfl (.c 1 rfl .n))) (.c (fun _ _ ⟨n11, hs⟩ => hs.ef.sub (.c 1 rfl (.c 1 rfl .n))) (.c (fun _ _ ⟨n11, hs⟩ => hs.ef.sub (.c 1 rfl (.c 1 rfl .n))) (.c (fun _ _ ⟨n11, hs⟩ => hs.ef.sub (.c 1 rfl (.c 1 rfl .n))) .n))))) ?_
  refine .c ?_ .n
  refine effOne rfl (opEx fun n11 => (gNone rfl (fStoreL 0 rfl rfl rfl rfl K23 rfl (rfl)))) ?_
  refine effDone (closedEx fun n11 => closedSt) (hLeft [] (by kernel_rfl) .n) (by kernel_rfl) ?_
  refine trEx fun n11 => ?_
  refine kThen ?_
  refine kSeq ?_
  refine kSeq ?_
  refine kRegion rfl ?_
  refine lV (yLoadA (vs := [_, _, _]) rfl A26 (cOwn 2 rfl rfl)) rfl rfl ?_
  refine lV (yCall rfl (.c rfl .n) C38 (fun w hw => rknown_any y p w (hm.eff0 hw) (by omega))) rfl rfl ?_
  refine lV (yEql rfl rfl) rfl rfl ?_
  refine known (t := 24) rfl (by omega) ?_
  refine lNil ?_
  refine kThen ?_
  refine kIfT rfl ?_
  refine kRegion rfl ?_
  refine lV (yBuild .n (fun w => B23_ w)) rfl rfl ?_
  refine same (t := 25) (u := .agg (rowE c).toArray) rfl (by rw [hcc]) ?_
  refine lE rfl ?_
  refine eStoreL 0 rfl rfl rfl rfl K23 rfl (rfl) ?_
  refine lNil ?_
  refine kThen ?_
  refine kSeq ?_
  refine kRegion rfl ?_
  refine lV (yBuild .n (fun w => B23_ w)) rfl rfl ?_
  refine lE rfl ?_
  refine eAlloc Z23 fun n12 => ?_
  refine lE rfl ?_
  refine eStoreL 0 rfl rfl rfl rfl K23 rfl (rfl) ?_
  refine lNil ?_
  refine kThen ?_
  refine kSeq ?_
  refine kSeq ?_
  refine kRegion rfl ?_
  refine lV (yFieldAddr rfl F23_0) rfl rfl ?_
  refine lV (yLoad1 rfl O3 (cOwn 1 rfl rfl)) rfl rfl ?_
  refine lV (yAssign rfl) rfl rfl ?_
  refine lNil ?_
  refine kThen ?_
  refine kBlock ?_
  refine kLoopX (ι := Nat) (fun j => j ≤ (c.2 - c.1 + 1).toNat) (fun j => [(13, i64 (c.1 + (j : Nat)))]) [(0, _), (1, _), (2, _), (3, _), (4, _), (5, _), (10, _), (16, _), (17, _), (18, _), (19, _), (20, _), (21, _), (11, _), (22, _), (23, _), (24, _), (25, _), (26, _), (12, _), (27, _), (28, _)] (fun j => []) (fun j => [(n12, blk (rowE (hullF (bfF p m n d s c.1) j)) 23)]) [(n11, _), (n10, _), (n5, _)] (fun j => (c.2 - c.1 + 1).toNat - j) 0 (Nat.zero_le _) rfl (.c (by show some (i64 _) = _; congr 2; simp) .n) (.c rfl (.c rfl (.c rfl (.c rfl (.c rfl (.c rfl (.c rfl (.c rfl (.c rfl (.c rfl (.c rfl (.c rfl (.c rfl (.c rfl (.c rfl (.c rfl (.c rfl (.c rfl (.c rfl (.c rfl (.c rfl (.c rfl .n)))))))))))))))))))))) (.c 1 rfl (.c 1 rfl (.c 1 rfl (.c 0 rfl .n)))) ?_
  rintro j hj
  refine kSeq ?_
  refine kSeq ?_
  refine kRegion rfl ?_
  refine lV (yMove rfl) rfl rfl ?_
  refine lV (yFieldAddr rfl F23_1) rfl rfl ?_
  refine lV (yLoad1 rfl O3 (cOwn 0 rfl rfl)) rfl rfl ?_
  refine lV (yLeq rfl rfl) rfl rfl ?_
  refine lNil ?_
  refine kThen ?_
  refine split (t := 32) rfl (fun h32 => ?_) (fun h32 => ?_)
  · refine kIfT rfl ?_
    refine kSkip ?_
    refine kThen ?_
    refine kSeq ?_
    refine kBlock ?_
    refine kSeq ?_
    have hcj : -10000000000000 ≤ c.1 + (j : Nat) ∧ c.1 + (j : Nat) ≤ 10000000000000 := by omega
    have pb1 := placeP_bd (d := d) hom (sc := s) (by omega) (c := c.1 + (j : Nat)) (by omega)
    have pb2 := placeP_bd (d := d) hon (sc := s) (by omega) (c := c.1 + (j : Nat)) (by omega)
    refine kDrawE [(1, none), (3, none), (4, none), (8, none), (10, none), (12, none), (13, none), (17, none)] [] [0, 1, 2, 3, 4, 5, 6, 7, 8, 9, 10, 11, 12, 13, 14, 15, 16, 17] 4 hMix (by kernel_rfl) ?_
    refine .run rfl (yFieldAddr rfl F26_1) rfl rfl ?_
    refine .run rfl (yLoad1 rfl O24 (cOwn 2 rfl rfl)) rfl rfl ?_
    refine .run rfl (yMove rfl) rfl rfl ?_
    refine .run rfl (yIndexS  rfl rfl S24 (hm.r) (hmn.1)) rfl rfl ?_
    refine .run rfl (yLoadA (vs := [_, _, _, _, _, _, _, _, _]) rfl A58 (cSl0 (hm.r) (hmn.1) rfl)) rfl rfl ?_
    refine .run rfl (yMove rfl) rfl rfl ?_
    refine .run rfl (yMove rfl) rfl rfl ?_
    refine .run rfl (yMove rfl) rfl rfl ?_
    refine .run rfl (yCall rfl (.c rfl (.c rfl (.c rfl (.c rfl .n)))) C106 (fun w hw => rplace_any (p.st.getD m star0) s (c.1 + (j : Nat)) d w hom (by omega) hcj)) rfl rfl ?_
    refine .run rfl (yFieldAddr rfl F26_1) rfl rfl ?_
    refine .run rfl (yLoad1 rfl O24 (cOwn 2 rfl rfl)) rfl rfl ?_
    refine .run rfl (yMove rfl) rfl rfl ?_
    refine .run rfl (yIndexS  rfl rfl S24 (hm.r) (hmn.2)) rfl rfl ?_
    refine .run rfl (yLoadA (vs := [_, _, _, _, _, _, _, _, _]) rfl A58 (cSl0 (hm.r) (hmn.2) rfl)) rfl rfl ?_
    refine .run rfl (yMove rfl) rfl rfl ?_
    refine .run rfl (yMove rfl) rfl rfl ?_
    refine .run rfl (yMove rfl) rfl rfl ?_
    refine .run rfl (yCall rfl (.c rfl (.c rfl (.c rfl (.c rfl .n)))) C106 (fun w hw => rplace_any (p.st.getD n star0) s (c.1 + (j : Nat)) d w hon (by omega) hcj)) rfl rfl ?_
    refine .done ?_
    refine effStep 18 [19] (by kernel_rfl) closedSt (hLeft [1, 3, 4, 8, 10, 12, 13, 17] (by kernel_rfl) (.c (fun _ _ hs => hs.ef) (.c (fun _ _ hs => hs.ef) (.c (fun _ _ hs => hs.ef) (.c (fun _ _ hs => hs.ef) (.c (fun _ _ hs => hs.ef) (.c (fun _ _ hs => hs.ef) (.c (fun _ _ hs => hs.ef) (.c (fun _ _ hs => hs.ef) .n))))))))) ?_
    refine (.c ?_ (.c ?_ .n))
    · refine effOne rfl (gNone rfl (fAlloc Z23)) ?_
      refine effStep 19 [] (by kernel_rfl) (closedEx fun n14 => closedSt) (hLeft [1, 3, 4, 8, 10, 12, 13, 17] (by kernel_rfl) (.c (fun _ _ ⟨n14, hs⟩ => hs.ef.sub (.c 1 rfl (.c 1 rfl (.c 1 rfl (.c 1 rfl .n))))) (.c (fun _ _ ⟨n14, hs⟩ => hs.ef.sub (.c 1 rfl (.c 1 rfl (.c 1 rfl (.c 1 rfl .n))))) (.c (fun _ _ ⟨n14, hs⟩ => hs.ef.sub (.c 1 rfl (.c 1 rfl (.c 1 rfl (.c 1 rfl .n))))) (.c (fun _ _ ⟨n14, hs⟩ => hs.ef.sub (.c 1 rfl (.c 1 rfl (.c 1 rfl (.c 1 rfl .n))))) (.c (fun _ _ ⟨n14, hs⟩ => hs.ef.sub (.c 1 rfl (.c 1 rfl (.c 1 rfl (.c 1 rfl .n))))) (.c (fun _ _ ⟨n14, hs⟩ => hs.ef.sub (.c 1 rfl (.c 1 rfl (.c 1 rfl (.c 1 rfl .n))))) (.c (fun _ _ ⟨n14, hs⟩ => hs.ef.sub (.c 1 rfl (.c 1 rfl (.c 1 rfl (.c 1 rfl .n))))) (.c (fun _ _ ⟨n14, hs⟩ => hs.ef.sub (.c 1 rfl (.c 1 rfl (.c 1 rfl (.c 1 rfl .n))))) .n))))))))) ?_
      refine .c ?_ .n
      refine effOne rfl (opEx fun n14 => (gNone rfl (fAlloc Z23))) ?_
      refine effStep 20 [] (by kernel_rfl) (closedEx fun n14 => (closedEx fun n15 => closedSt)) (hLeft [1, 3, 4, 8, 10, 12, 13, 17] (by kernel_rfl) (.c (fun _ _ ⟨n14, ⟨n15, hs⟩⟩ => hs.ef.sub (.c 2 rfl (.c 2 rfl (.c 2 rfl (.c 2 rfl .n))))) (.c (fun _ _ ⟨n14, ⟨n15, hs⟩⟩ => hs.ef.sub (.c 2 rfl (.c 2 rfl (.c 2 rfl (.c 2 rfl .n))))) (.c (fun _ _ ⟨n14, ⟨n15, hs⟩⟩ => hs.ef.sub (.c 2 rfl (.c 2 rfl (.c 2 rfl (.c 2 rfl .n))))) (.c (fun _ _ ⟨n14, ⟨n15, hs⟩⟩ => hs.ef.sub (.c 2 rfl (.c 2 rfl (.c 2 rfl (.c 2 rfl .n))))) (.c (fun _ _ ⟨n14, ⟨n15, hs⟩⟩ => hs.ef.sub (.c 2 rfl (.c 2 rfl (.c 2 rfl (.c 2 rfl .n))))) (.c (fun _ _ ⟨n14, ⟨n15, hs⟩⟩ => hs.ef.sub (.c 2 rfl (.c 2 rfl (.c 2 rfl (.c 2 rfl .n))))) (.c (fun _ _ ⟨n14, ⟨n15, hs⟩⟩ => hs.ef.sub (.c 2 rfl (.c 2 rfl (.c 2 rfl (.c 2 rfl .n))))) (.c (fun _ _ ⟨n14, ⟨n15, hs⟩⟩ => hs.ef.sub (.c 2 rfl (.c 2 rfl (.c 2 rfl (.c 2 rfl .n))))) .n))))))))) ?_
      refine .c ?_ .n
      refine effOne rfl (opEx fun n14 => (opEx fun n15 => (gNone rfl (fStoreL 1 rfl rfl rfl rfl K23 rfl (rfl))))) ?_
      refine effStep 21 [] (by kernel_rfl) (closedEx fun n14 => (closedEx fun n15 => closedSt)) (hLeft [10] (by kernel_rfl) (.c (fun _ _ ⟨n14, ⟨n15, hs⟩⟩ => hs.ef.sub (.c 2 rfl (.c 2 rfl (.c 2 rfl (.c 2 rfl .n))))) .n)) ?_
      refine .c ?_ .n
      refine effOne rfl (opEx fun n14 => (opEx fun n15 => (gNone rfl (fStoreL 0 rfl rfl rfl rfl K23 rfl (rfl))))) ?_
      refine effDone (closedEx fun n14 => (closedEx fun n15 => closedSt)) (hLeft [] (by kernel_rfl) .n) (by kernel_rfl) ?_
      refine trEx fun n14 => ?_
      refine trEx fun n15 => ?_
      refine kThen ?_
      refine kRegion rfl ?_
      refine lV (yLoadA (vs := [_, _]) rfl A23 (cOwn 5 rfl rfl)) rfl rfl ?_
      refine lV (yFieldAddr rfl F23_0) rfl rfl ?_
      refine lV (yLoad1 rfl O3 (cOwn 0 rfl rfl)) rfl rfl ?_
      refine lV (yFieldAddr rfl F23_1) rfl rfl ?_
      refine lV (yLoad1 rfl O3 (cOwn 1 rfl rfl)) rfl rfl ?_
      refine lV (ySub rfl rfl (by omega)) rfl rfl ?_
      refine lV (yFieldAddr rfl F23_1) rfl rfl ?_
      refine lV (yLoad1 rfl O3 (cOwn 0 rfl rfl)) rfl rfl ?_
      refine lV (yFieldAddr rfl F23_0) rfl rfl ?_
      refine lV (yLoad1 rfl O3 (cOwn 1 rfl rfl)) rfl rfl ?_
      refine lV (ySub rfl rfl (by omega)) rfl rfl ?_
      refine lV (yBuild (.c rfl (.c rfl .n)) (fun w => B23_0_1 w)) rfl rfl ?_
      refine lV (yMove rfl) rfl rfl ?_
      refine lV (yFieldAddr rfl F23_0) rfl rfl ?_
      refine lV (yLoad1 rfl O3 (cOwn 2 rfl rfl)) rfl rfl ?_
      refine lV (yEql rfl rfl) rfl rfl ?_
      refine knownB (t := 68) (c := decide ((j : Int) = 0)) rfl (by rw [decide_eq_decide]; omega) ?_
      refine lV (yCall rfl (.c rfl (.c rfl (.c rfl .n))) C61 (fun w hw => rhull_any (hullF (bfF p m n d s c.1) j) (bfF p m n d s c.1 j) (decide ((j : Int) = 0)) w)) rfl rfl ?_
      refine same (t := 69) (u := .agg (rowE (hullF (bfF p m n d s c.1) (j + 1))).toArray) rfl (by rw [hullF_succ]) ?_
      refine lE rfl ?_
      refine eStoreL 5 rfl rfl rfl rfl K23 rfl (rfl) ?_
      refine lNil ?_
      refine kInN ?_
      refine kThen ?_
      refine kRegion rfl ?_
      refine lV (yMove rfl) rfl rfl ?_
      refine lV (yAdd rfl rfl (by omega)) rfl rfl ?_
      refine lV (yAssign rfl) rfl rfl ?_
      refine lNil ?_
      exact kRoundX (j + 1) (by omega) (by omega) rfl (.c (by show some (i64 _) = _; congr 2; push_cast; omega) .n) (.c rfl (.c rfl (.c rfl (.c rfl (.c rfl (.c rfl (.c rfl (.c rfl (.c rfl (.c rfl (.c rfl (.c rfl (.c rfl (.c rfl (.c rfl (.c rfl (.c rfl (.c rfl (.c rfl (.c rfl (.c rfl (.c rfl .n)))))))))))))))))))))) (.c 2 rfl (.c 2 rfl (.c 2 rfl (.c 2 rfl .n))))
    · refine effOne rfl (gNone rfl (fAlloc Z23)) ?_
      refine effStep 18 [] (by kernel_rfl) (closedEx fun n15 => closedSt) (hLeft [1, 3, 4, 8, 10, 12, 13, 17] (by kernel_rfl) (.c (fun _ _ ⟨n15, hs⟩ => hs.ef.sub (.c 1 rfl (.c 1 rfl (.c 1 rfl (.c 1 rfl .n))))) (.c (fun _ _ ⟨n15, hs⟩ => hs.ef.sub (.c 1 rfl (.c 1 rfl (.c 1 rfl (.c 1 rfl .n))))) (.c (fun _ _ ⟨n15, hs⟩ => hs.ef.sub (.c 1 rfl (.c 1 rfl (.c 1 rfl (.c 1 rfl .n))))) (.c (fun _ _ ⟨n15, hs⟩ => hs.ef.sub (.c 1 rfl (.c 1 rfl (.c 1 rfl (.c 1 rfl .n))))) (.c (fun _ _ ⟨n15, hs⟩ => hs.ef.sub (.c 1 rfl (.c 1 rfl (.c 1 rfl (.c 1 rfl .n))))) (.c (fun _ _ ⟨n15, hs⟩ => hs.ef.sub (.c 1 rfl (.c 1 rfl (.c 1 rfl (.c 1 rfl .n))))) (.c (fun _ _ ⟨n15, hs⟩ => hs.ef.sub (.c 1 rfl (.c 1 rfl (.c 1 rfl (.c 1 rfl .n))))) (.c (fun _ _ ⟨n15, hs⟩ => hs.ef.sub (.c 1 rfl (.c 1 rfl (.c 1 rfl (.c 1 rfl .n))))) .n))))))))) ?_
      refine .c ?_ .n
      refine effOne rfl (opEx fun n15 => (gNone rfl (fAlloc Z23))) ?_
      refine effStep 20 [] (by kernel_rfl) (closedEx fun n15 => (closedEx fun n14 => closedSt)) (hLeft [1, 3, 4, 8, 10, 12, 13, 17] (by kernel_rfl) (.c (fun _ _ ⟨n15, ⟨n14, hs⟩⟩ => hs.ef.sub (.c 2 rfl (.c 2 rfl (.c 2 rfl (.c 2 rfl .n))))) (.c (fun _ _ ⟨n15, ⟨n14, hs⟩⟩ => hs.ef.sub (.c 2 rfl (.c 2 rfl (.c 2 rfl (.c 2 rfl .n))))) (.c (fun _ _ ⟨n15, ⟨n14, hs⟩⟩ => hs.ef.sub (.c 2 rfl (.c 2 rfl (.c 2 rfl (.c 2 rfl .n))))) (.c (fun _ _ ⟨n15, ⟨n14, hs⟩⟩ => hs.ef.sub (.c 2 rfl (.c 2 rfl (.c 2 rfl (.c 2 rfl .n))))) (.c (fun _ _ ⟨n15, ⟨n14, hs⟩⟩ => hs.ef.sub (.c 2 rfl (.c 2 rfl (.c 2 rfl (.c 2 rfl .n))))) (.c (fun _ _ ⟨n15, ⟨n14, hs⟩⟩ => hs.ef.sub (.c 2 rfl (.c 2 rfl (.c 2 rfl (.c 2 rfl .n))))) (.c (fun _ _ ⟨n15, ⟨n14, hs⟩⟩ => hs.ef.sub (.c 2 rfl (.c 2 rfl (.c 2 rfl (.c 2 rfl .n))))) (.c (fun _ _ ⟨n15, ⟨n14, hs⟩⟩ => hs.ef.sub (.c 2 rfl (.c 2 rfl (.c 2 rfl (.c 2 rfl .n))))) .n))))))))) ?_
      refine .c ?_ .n
      refine effOne rfl (opEx fun n15 => (opEx fun n14 => (gNone rfl (fStoreL 0 rfl rfl rfl rfl K23 rfl (rfl))))) ?_
      refine effStep 21 [] (by kernel_rfl) (closedEx fun n15 => (closedEx fun n14 => closedSt)) (hLeft [10] (by kernel_rfl) (.c (fun _ _ ⟨n15, ⟨n14, hs⟩⟩ => hs.ef.sub (.c 2 rfl (.c 2 rfl (.c 2 rfl (.c 2 rfl .n))))) .n)) ?_
      refine .c ?_ .n
      refine effOne rfl (opEx fun n15 => (opEx fun n14 => (gNone rfl (fStoreL 1 rfl rfl rfl rfl K23 rfl (rfl))))) ?_
      refine effDone (closedEx fun n15 => (closedEx fun n14 => closedSt)) (hLeft [] (by kernel_rfl) .n) (by kernel_rfl) ?_
      refine trEx fun n15 => ?_
      refine trEx fun n14 => ?_
      refine kThen ?_
      refine kRegion rfl ?_
      refine lV (yLoadA (vs := [_, _]) rfl A23 (cOwn 5 rfl rfl)) rfl rfl ?_
      refine lV (yFieldAddr rfl F23_0) rfl rfl ?_
      refine lV (yLoad1 rfl O3 (cOwn 1 rfl rfl)) rfl rfl ?_
      refine lV (yFieldAddr rfl F23_1) rfl rfl ?_
      refine lV (yLoad1 rfl O3 (cOwn 0 rfl rfl)) rfl rfl ?_
      refine lV (ySub rfl rfl (by omega)) rfl rfl ?_
      refine lV (yFieldAddr rfl F23_1) rfl rfl ?_
      refine lV (yLoad1 rfl O3 (cOwn 1 rfl rfl)) rfl rfl ?_
      refine lV (yFieldAddr rfl F23_0) rfl rfl ?_
      refine lV (yLoad1 rfl O3 (cOwn 0 rfl rfl)) rfl rfl ?_
      refine lV (ySub rfl rfl (by omega)) rfl rfl ?_
      refine lV (yBuild (.c rfl (.c rfl .n)) (fun w => B23_0_1 w)) rfl rfl ?_
      refine lV (yMove rfl) rfl rfl ?_
      refine lV (yFieldAddr rfl F23_0) rfl rfl ?_
      refine lV (yLoad1 rfl O3 (cOwn 2 rfl rfl)) rfl rfl ?_
      refine lV (yEql rfl rfl) rfl rfl ?_
      refine knownB (t := 68) (c := decide ((j : Int) = 0)) rfl (by rw [decide_eq_decide]; omega) ?_
      refine lV (yCall rfl (.c rfl (.c rfl (.c rfl .n))) C61 (fun w hw => rhull_any (hullF (bfF p m n d s c.1) j) (bfF p m n d s c.1 j) (decide ((j : Int) = 0)) w)) rfl rfl ?_
      refine same (t := 69) (u := .agg (rowE (hullF (bfF p m n d s c.1) (j + 1))).toArray) rfl (by rw [hullF_succ]) ?_
      refine lE rfl ?_
      refine eStoreL 5 rfl rfl rfl rfl K23 rfl (rfl) ?_
      refine lNil ?_
      refine kInN ?_
      refine kThen ?_
      refine kRegion rfl ?_
      refine lV (yMove rfl) rfl rfl ?_
      refine lV (yAdd rfl rfl (by omega)) rfl rfl ?_
      refine lV (yAssign rfl) rfl rfl ?_
      refine lNil ?_
      exact kRoundX (j + 1) (by omega) (by omega) rfl (.c (by show some (i64 _) = _; congr 2; push_cast; omega) .n) (.c rfl (.c rfl (.c rfl (.c rfl (.c rfl (.c rfl (.c rfl (.c rfl (.c rfl (.c rfl (.c rfl (.c rfl (.c rfl (.c rfl (.c rfl (.c rfl (.c rfl (.c rfl (.c rfl (.c rfl (.c rfl (.c rfl .n)))))))))))))))))))))) (.c 2 rfl (.c 2 rfl (.c 2 rfl (.c 2 rfl .n))))
  · refine kIfF rfl ?_
    refine kExit ?_
    refine kThenX ?_
    refine kThenX ?_
    refine kInX ?_
    refine kThen ?_
    refine kSeq ?_
    refine kRegion rfl ?_
    refine lV (yLoadA (vs := [_, _]) rfl A23 (cOwn 3 rfl rfl)) rfl rfl ?_
    refine lE rfl ?_
    refine eStoreL 1 rfl rfl rfl rfl K23 rfl (rfl) ?_
    refine lNil ?_
    refine kThen ?_
    refine kRet ?_
    refine fRet rfl (.cA (us := [_, _]) rfl A23 (cOwn 1 rfl rfl) .n) (endRet ?_)
    obtain rfl : j = (c.2 - c.1 + 1).toNat := by omega
    rfl
set_option maxRecDepth 100000 in
set_option maxHeartbeats 4000000 in
theorem rbetween_1 (y : Option Addr × Nat) (p : Plt) (m n : Nat) (s : Int) (d : Bool) (w : World) (hm : InP w y p) (hp : PltOk p) (hmn : m < p.st.length ∧ n < p.st.length) (hs : s ∈ scalesP p (knownP p)) (hk : ¬ knownP p = 0) :
    Calls Try.prog 71 [.agg (pltC y p).toArray, i64 (m : Nat), i64 (n : Nat), i64 s, .bool d].toArray w (Ret w (.agg (rowE (btV p m n d s)).toArray)) := by
  have hl := hp.n
  have hsc := mem_sc hp hs
  have hc : bcP p d s = (cornP p d s (knownP p)) := by unfold bcP; rw [if_neg hk]
  have hbt : btV p m n d s = hullF (bfF p m n d s (cornP p d s (knownP p)).1) ((cornP p d s (knownP p)).2 - (cornP p d s (knownP p)).1 + 1).toNat := by unfold btV; rw [hc]
  obtain ⟨c, hcc⟩ : ∃ c : Int × Int, c = (cornP p d s (knownP p)) := ⟨_, rfl⟩
  have hbd : (-1099511627776 ≤ c.1 ∧ c.1 ≤ 1099511627776) ∧ -1099511627776 ≤ c.2 ∧ c.2 ≤ 1099511627776 := by rw [hcc]; exact corn_bd (scalesP_mem.1 hs).2 d
  have hle : c.1 ≤ c.2 := by rw [hcc]; exact (mem_at hs d).1
  have hom := hp.s _ (getD_mem hmn.1 star0)
  have hon := hp.s _ (getD_mem hmn.2 star0)
  rw [hbt, ← hcc]
  refine fEnter Try.func71 rfl Try.ntmps71 rfl ?_
  refine kSeq ?_
  refine kRegion rfl ?_
  refine lE rfl ?_
  refine eBoxA rfl fun n5 => ?_
  refine lE rfl ?_
  refine eAlloc Z23 fun n10 => ?_
  refine lNil ?_
  refine kThen ?_
  refine kSeq ?_
  refine kDrawE [(0, none), (1, none), (2, none), (5, none)] [] [0, 1, 2, 3, 4, 5] 2 hMix (by kernel_rfl) ?_
  refine .run rfl (yLoadA (vs := [_, _, _]) rfl A26 (cOwn 1 rfl rfl)) rfl rfl ?_
  refine .run rfl (yLoadA (vs := [_, _, _]) rfl A26 (cOwn 1 rfl rfl)) rfl rfl ?_
  refine .run rfl (yCall rfl (.c rfl .n) C38 (fun w hw => rknown_any y p w (hm.eff0 hw) (by omega))) rfl rfl ?_
  refine .run rfl (yMove rfl) rfl rfl ?_
  refine .run rfl (yMove rfl) rfl rfl ?_
  refine .run rfl (yvSame (u := .agg (rowE c).toArray) (yCall rfl (.c rfl (.c rfl (.c rfl (.c rfl .n)))) C62 (fun w hw => rcorner_any y p d s (knownP p) w (hm.eff0 hw) hp (by omega) (known_ok p))) (by rw [hcc])) rfl rfl ?_
  refine .done ?_
  refine effStep 6 [] (by kernel_rfl) closedSt (hLeft [0, 1, 2, 5] (by kernel_rfl) (.c (fun _ _ hs => hs.ef) (.c (fun _ _ hs => hs.ef) (.c (fun _ _ hs => hs.ef) (.c (fun _ _ hs => hs.ef) .n))))) ?_
  refine .c ?_ .n
  refine effOne rfl (gNone rfl (fAlloc Z23)) ?_
  refine effStep 7 [] (by kernel_rfl) (closedEx fun n11 => closedSt) (hLeft [0, 1, 2, 5] (by kernel_rfl) (.c (fun _ _ ⟨n11, hs⟩ => hs.ef.sub (.c 1 rfl (.c 1 rfl .n))) (.c (fun _ _ ⟨n11, hs⟩ => hs.ef.sub (.c 1 rfl (.c 1 rfl .n))) (.c (fun _ _ ⟨n11, hs⟩ => hs.ef.sub (.c 1 rfl (.c 1 rfl .n))) (.c (fun _ _ ⟨n11, hs⟩ => hs.ef.sub (.c 1 rfl (.c 1 rfl .n))) .n))))) ?_
  refine .c ?_ .n
  refine effOne rfl (opEx fun n11 => (gNone rfl (fStoreL 0 rfl rfl rfl rfl K23 rfl (rfl)))) ?_
  refine effDone (closedEx fun n11 => closedSt) (hLeft [] (by kernel_rfl) .n) (by kernel_rfl) ?_
  refine trEx fun n11 => ?_
  refine kThen ?_
  refine kSeq ?_
  refine kSeq ?_
  refine kRegion rfl ?_
  refine lV (yLoadA (vs := [_, _, _]) rfl A26 (cOwn 2 rfl rfl)) rfl rfl ?_
  refine lV (yCall rfl (.c rfl .n) C38 (fun w hw => rknown_any y p w (hm.eff0 hw) (by omega))) rfl rfl ?_
  refine lV (yEql rfl rfl) rfl rfl ?_
  refine knownN (t := 24) rfl (by omega) ?_
  refine lNil ?_
  refine kThen ?_
  refine kIfF rfl ?_
  refine kSkip ?_
  refine kThen ?_
  refine kSeq ?_
  refine kRegion rfl ?_
  refine lV (yBuild .n (fun w => B23_ w)) rfl rfl ?_
  refine lE rfl ?_
  refine eAlloc Z23 fun n12 => ?_
  refine lE rfl ?_
  refine eStoreL 0 rfl rfl rfl rfl K23 rfl (rfl) ?_
  refine lNil ?_
  refine kThen ?_
  refine kSeq ?_
  refine kSeq ?_
  refine kRegion rfl ?_
  refine lV (yFieldAddr rfl F23_0) rfl rfl ?_
  refine lV (yLoad1 rfl O3 (cOwn 1 rfl rfl)) rfl rfl ?_
  refine lV (yAssign rfl) rfl rfl ?_
  refine lNil ?_
  refine kThen ?_
  refine kBlock ?_
  refine kLoopX (ι := Nat) (fun j => j ≤ (c.2 - c.1 + 1).toNat) (fun j => [(13, i64 (c.1 + (j : Nat)))]) [(0, _), (1, _), (2, _), (3, _), (4, _), (5, _), (10, _), (16, _), (17, _), (18, _), (19, _), (20, _), (21, _), (11, _), (22, _), (23, _), (24, _), (26, _), (12, _), (27, _), (28, _)] (fun j => []) (fun j => [(n12, blk (rowE (hullF (bfF p m n d s c.1) j)) 23)]) [(n11, _), (n10, _), (n5, _)] (fun j => (c.2 - c.1 + 1).toNat - j) 0 (Nat.zero_le _) rfl (.c (by show some (i64 _) = _; congr 2; simp) .n) (.c rfl (.c rfl (.c rfl (.c rfl (.c rfl (.c rfl (.c rfl (.c rfl (.c rfl (.c rfl (.c rfl (.c rfl (.c rfl (.c rfl (.c rfl (.c rfl (.c rfl (.c rfl (.c rfl (.c rfl (.c rfl .n))))))))))))))))))))) (.c 1 rfl (.c 1 rfl (.c 1 rfl (.c 0 rfl .n)))) ?_
  rintro j hj
  refine kSeq ?_
  refine kSeq ?_
  refine kRegion rfl ?_
  refine lV (yMove rfl) rfl rfl ?_
  refine lV (yFieldAddr rfl F23_1) rfl rfl ?_
  refine lV (yLoad1 rfl O3 (cOwn 0 rfl rfl)) rfl rfl ?_
  refine lV (yLeq rfl rfl) rfl rfl ?_
  refine lNil ?_
  refine kThen ?_
  refine split (t := 32) rfl (fun h32 => ?_) (fun h32 => ?_)
  · refine kIfT rfl ?_
    refine kSkip ?_
    refine kThen ?_
    refine kSeq ?_
    refine kBlock ?_
    refine kSeq ?_
    have hcj : -10000000000000 ≤ c.1 + (j : Nat) ∧ c.1 + (j : Nat) ≤ 10000000000000 := by omega
    have pb1 := placeP_bd (d := d) hom (sc := s) (by omega) (c := c.1 + (j : Nat)) (by omega)
    have pb2 := placeP_bd (d := d) hon (sc := s) (by omega) (c := c.1 + (j : Nat)) (by omega)
    refine kDrawE [(1, none), (3, none), (4, none), (8, none), (10, none), (12, none), (13, none), (17, none)] [] [0, 1, 2, 3, 4, 5, 6, 7, 8, 9, 10, 11, 12, 13, 14, 15, 16, 17] 4 hMix (by kernel_rfl) ?_
    refine .run rfl (yFieldAddr rfl F26_1) rfl rfl ?_
    refine .run rfl (yLoad1 rfl O24 (cOwn 2 rfl rfl)) rfl rfl ?_
    refine .run rfl (yMove rfl) rfl rfl ?_
    refine .run rfl (yIndexS  rfl rfl S24 (hm.r) (hmn.1)) rfl rfl ?_
    refine .run rfl (yLoadA (vs := [_, _, _, _, _, _, _, _, _]) rfl A58 (cSl0 (hm.r) (hmn.1) rfl)) rfl rfl ?_
    refine .run rfl (yMove rfl) rfl rfl ?_
    refine .run rfl (yMove rfl) rfl rfl ?_
    refine .run rfl (yMove rfl) rfl rfl ?_
    refine .run rfl (yCall rfl (.c rfl (.c rfl (.c rfl (.c rfl .n)))) C106 (fun w hw => rplace_any (p.st.getD m star0) s (c.1 + (j : Nat)) d w hom (by omega) hcj)) rfl rfl ?_
    refine .run rfl (yFieldAddr rfl F26_1) rfl rfl ?_
    refine .run rfl (yLoad1 rfl O24 (cOwn 2 rfl rfl)) rfl rfl ?_
    refine .run rfl (yMove rfl) rfl rfl ?_
    refine .run rfl (yIndexS  rfl rfl S24 (hm.r) (hmn.2)) rfl rfl ?_
    refine .run rfl (yLoadA (vs := [_, _, _, _, _, _, _, _, _]) rfl A58 (cSl0 (hm.r) (hmn.2) rfl)) rfl rfl ?_
    refine .run rfl (yMove rfl) rfl rfl ?_
    refine .run rfl (yMove rfl) rfl rfl ?_
    refine .run rfl (yMove rfl) rfl rfl ?_
    refine .run rfl (yCall rfl (.c rfl (.c rfl (.c rfl (.c rfl .n)))) C106 (fun w hw => rplace_any (p.st.getD n star0) s (c.1 + (j : Nat)) d w hon (by omega) hcj)) rfl rfl ?_
    refine .done ?_
    refine effStep 18 [19] (by kernel_rfl) closedSt (hLeft [1, 3, 4, 8, 10, 12, 13, 17] (by kernel_rfl) (.c (fun _ _ hs => hs.ef) (.c (fun _ _ hs => hs.ef) (.c (fun _ _ hs => hs.ef) (.c (fun _ _ hs => hs.ef) (.c (fun _ _ hs => hs.ef) (.c (fun _ _ hs => hs.ef) (.c (fun _ _ hs => hs.ef) (.c (fun _ _ hs => hs.ef) .n))))))))) ?_
    refine (.c ?_ (.c ?_ .n))
    · refine effOne rfl (gNone rfl (fAlloc Z23)) ?_
      refine effStep 19 [] (by kernel_rfl) (closedEx fun n14 => closedSt) (hLeft [1, 3, 4, 8, 10, 12, 13, 17] (by kernel_rfl) (.c (fun _ _ ⟨n14, hs⟩ => hs.ef.sub (.c 1 rfl (.c 1 rfl (.c 1 rfl (.c 1 rfl .n))))) (.c (fun _ _ ⟨n14, hs⟩ => hs.ef.sub (.c 1 rfl (.c 1 rfl (.c 1 rfl (.c 1 rfl .n))))) (.c (fun _ _ ⟨n14, hs⟩ => hs.ef.sub (.c 1 rfl (.c 1 rfl (.c 1 rfl (.c 1 rfl .n))))) (.c (fun _ _ ⟨n14, hs⟩ => hs.ef.sub (.c 1 rfl (.c 1 rfl (.c 1 rfl (.c 1 rfl .n))))) (.c (fun _ _ ⟨n14, hs⟩ => hs.ef.sub (.c 1 rfl (.c 1 rfl (.c 1 rfl (.c 1 rfl .n))))) (.c (fun _ _ ⟨n14, hs⟩ => hs.ef.sub (.c 1 rfl (.c 1 rfl (.c 1 rfl (.c 1 rfl .n))))) (.c (fun _ _ ⟨n14, hs⟩ => hs.ef.sub (.c 1 rfl (.c 1 rfl (.c 1 rfl (.c 1 rfl .n))))) (.c (fun _ _ ⟨n14, hs⟩ => hs.ef.sub (.c 1 rfl (.c 1 rfl (.c 1 rfl (.c 1 rfl .n))))) .n))))))))) ?_
      refine .c ?_ .n
      refine effOne rfl (opEx fun n14 => (gNone rfl (fAlloc Z23))) ?_
      refine effStep 20 [] (by kernel_rfl) (closedEx fun n14 => (closedEx fun n15 => closedSt)) (hLeft [1, 3, 4, 8, 10, 12, 13, 17] (by kernel_rfl) (.c (fun _ _ ⟨n14, ⟨n15, hs⟩⟩ => hs.ef.sub (.c 2 rfl (.c 2 rfl (.c 2 rfl (.c 2 rfl .n))))) (.c (fun _ _ ⟨n14, ⟨n15, hs⟩⟩ => hs.ef.sub (.c 2 rfl (.c 2 rfl (.c 2 rfl (.c 2 rfl .n))))) (.c (fun _ _ ⟨n14, ⟨n15, hs⟩⟩ => hs.ef.sub (.c 2 rfl (.c 2 rfl (.c 2 rfl (.c 2 rfl .n))))) (.c (fun _ _ ⟨n14, ⟨n15, hs⟩⟩ => hs.ef.sub (.c 2 rfl (.c 2 rfl (.c 2 rfl (.c 2 rfl .n))))) (.c (fun _ _ ⟨n14, ⟨n15, hs⟩⟩ => hs.ef.sub (.c 2 rfl (.c 2 rfl (.c 2 rfl (.c 2 rfl .n))))) (.c (fun _ _ ⟨n14, ⟨n15, hs⟩⟩ => hs.ef.sub (.c 2 rfl (.c 2 rfl (.c 2 rfl (.c 2 rfl .n))))) (.c (fun _ _ ⟨n14, ⟨n15, hs⟩⟩ => hs.ef.sub (.c 2 rfl (.c 2 rfl (.c 2 rfl (.c 2 rfl .n))))) (.c (fun _ _ ⟨n14, ⟨n15, hs⟩⟩ => hs.ef.sub (.c 2 rfl (.c 2 rfl (.c 2 rfl (.c 2 rfl .n))))) .n))))))))) ?_
      refine .c ?_ .n
      refine effOne rfl (opEx fun n14 => (opEx fun n15 => (gNone rfl (fStoreL 1 rfl rfl rfl rfl K23 rfl (rfl))))) ?_
      refine effStep 21 [] (by kernel_rfl) (closedEx fun n14 => (closedEx fun n15 => closedSt)) (hLeft [10] (by kernel_rfl) (.c (fun _ _ ⟨n14, ⟨n15, hs⟩⟩ => hs.ef.sub (.c 2 rfl (.c 2 rfl (.c 2 rfl (.c 2 rfl .n))))) .n)) ?_
      refine .c ?_ .n
      refine effOne rfl (opEx fun n14 => (opEx fun n15 => (gNone rfl (fStoreL 0 rfl rfl rfl rfl K23 rfl (rfl))))) ?_
      refine effDone (closedEx fun n14 => (closedEx fun n15 => closedSt)) (hLeft [] (by kernel_rfl) .n) (by kernel_rfl) ?_
      refine trEx fun n14 => ?_
      refine trEx fun n15 => ?_
      refine kThen ?_
      refine kRegion rfl ?_
      refine lV (yLoadA (vs := [_, _]) rfl A23 (cOwn 5 rfl rfl)) rfl rfl ?_
      refine lV (yFieldAddr rfl F23_0) rfl rfl ?_
      refine lV (yLoad1 rfl O3 (cOwn 0 rfl rfl)) rfl rfl ?_
      refine lV (yFieldAddr rfl F23_1) rfl rfl ?_
      refine lV (yLoad1 rfl O3 (cOwn 1 rfl rfl)) rfl rfl ?_
      refine lV (ySub rfl rfl (by omega)) rfl rfl ?_
      refine lV (yFieldAddr rfl F23_1) rfl rfl ?_
      refine lV (yLoad1 rfl O3 (cOwn 0 rfl rfl)) rfl rfl ?_
      refine lV (yFieldAddr rfl F23_0) rfl rfl ?_
      refine lV (yLoad1 rfl O3 (cOwn 1 rfl rfl)) rfl rfl ?_
      refine lV (ySub rfl rfl (by omega)) rfl rfl ?_
      refine lV (yBuild (.c rfl (.c rfl .n)) (fun w => B23_0_1 w)) rfl rfl ?_
      refine lV (yMove rfl) rfl rfl ?_
      refine lV (yFieldAddr rfl F23_0) rfl rfl ?_
      refine lV (yLoad1 rfl O3 (cOwn 2 rfl rfl)) rfl rfl ?_
      refine lV (yEql rfl rfl) rfl rfl ?_
      refine knownB (t := 68) (c := decide ((j : Int) = 0)) rfl (by rw [decide_eq_decide]; omega) ?_
      refine lV (yCall rfl (.c rfl (.c rfl (.c rfl .n))) C61 (fun w hw => rhull_any (hullF (bfF p m n d s c.1) j) (bfF p m n d s c.1 j) (decide ((j : Int) = 0)) w)) rfl rfl ?_
      refine same (t := 69) (u := .agg (rowE (hullF (bfF p m n d s c.1) (j + 1))).toArray) rfl (by rw [hullF_succ]) ?_
      refine lE rfl ?_
      refine eStoreL 5 rfl rfl rfl rfl K23 rfl (rfl) ?_
      refine lNil ?_
      refine kInN ?_
      refine kThen ?_
      refine kRegion rfl ?_
      refine lV (yMove rfl) rfl rfl ?_
      refine lV (yAdd rfl rfl (by omega)) rfl rfl ?_
      refine lV (yAssign rfl) rfl rfl ?_
      refine lNil ?_
      exact kRoundX (j + 1) (by omega) (by omega) rfl (.c (by show some (i64 _) = _; congr 2; push_cast; omega) .n) (.c rfl (.c rfl (.c rfl (.c rfl (.c rfl (.c rfl (.c rfl (.c rfl (.c rfl (.c rfl (.c rfl (.c rfl (.c rfl (.c rfl (.c rfl (.c rfl (.c rfl (.c rfl (.c rfl (.c rfl (.c rfl .n))))))))))))))))))))) (.c 2 rfl (.c 2 rfl (.c 2 rfl (.c 2 rfl .n))))
    · refine effOne rfl (gNone rfl (fAlloc Z23)) ?_
      refine effStep 18 [] (by kernel_rfl) (closedEx fun n15 => closedSt) (hLeft [1, 3, 4, 8, 10, 12, 13, 17] (by kernel_rfl) (.c (fun _ _ ⟨n15, hs⟩ => hs.ef.sub (.c 1 rfl (.c 1 rfl (.c 1 rfl (.c 1 rfl .n))))) (.c (fun _ _ ⟨n15, hs⟩ => hs.ef.sub (.c 1 rfl (.c 1 rfl (.c 1 rfl (.c 1 rfl .n))))) (.c (fun _ _ ⟨n15, hs⟩ => hs.ef.sub (.c 1 rfl (.c 1 rfl (.c 1 rfl (.c 1 rfl .n))))) (.c (fun _ _ ⟨n15, hs⟩ => hs.ef.sub (.c 1 rfl (.c 1 rfl (.c 1 rfl (.c 1 rfl .n))))) (.c (fun _ _ ⟨n15, hs⟩ => hs.ef.sub (.c 1 rfl (.c 1 rfl (.c 1 rfl (.c 1 rfl .n))))) (.c (fun _ _ ⟨n15, hs⟩ => hs.ef.sub (.c 1 rfl (.c 1 rfl (.c 1 rfl (.c 1 rfl .n))))) (.c (fun _ _ ⟨n15, hs⟩ => hs.ef.sub (.c 1 rfl (.c 1 rfl (.c 1 rfl (.c 1 rfl .n))))) (.c (fun _ _ ⟨n15, hs⟩ => hs.ef.sub (.c 1 rfl (.c 1 rfl (.c 1 rfl (.c 1 rfl .n))))) .n))))))))) ?_
      refine .c ?_ .n
      refine effOne rfl (opEx fun n15 => (gNone rfl (fAlloc Z23))) ?_
      refine effStep 20 [] (by kernel_rfl) (closedEx fun n15 => (closedEx fun n14 => closedSt)) (hLeft [1, 3, 4, 8, 10, 12, 13, 17] (by kernel_rfl) (.c (fun _ _ ⟨n15, ⟨n14, hs⟩⟩ => hs.ef.sub (.c 2 rfl (.c 2 rfl (.c 2 rfl (.c 2 rfl .n))))) (.c (fun _ _ ⟨n15, ⟨n14, hs⟩⟩ => hs.ef.sub (.c 2 rfl (.c 2 rfl (.c 2 rfl (.c 2 rfl .n))))) (.c (fun _ _ ⟨n15, ⟨n14, hs⟩⟩ => hs.ef.sub (.c 2 rfl (.c 2 rfl (.c 2 rfl (.c 2 rfl .n))))) (.c (fun _ _ ⟨n15, ⟨n14, hs⟩⟩ => hs.ef.sub (.c 2 rfl (.c 2 rfl (.c 2 rfl (.c 2 rfl .n))))) (.c (fun _ _ ⟨n15, ⟨n14, hs⟩⟩ => hs.ef.sub (.c 2 rfl (.c 2 rfl (.c 2 rfl (.c 2 rfl .n))))) (.c (fun _ _ ⟨n15, ⟨n14, hs⟩⟩ => hs.ef.sub (.c 2 rfl (.c 2 rfl (.c 2 rfl (.c 2 rfl .n))))) (.c (fun _ _ ⟨n15, ⟨n14, hs⟩⟩ => hs.ef.sub (.c 2 rfl (.c 2 rfl (.c 2 rfl (.c 2 rfl .n))))) (.c (fun _ _ ⟨n15, ⟨n14, hs⟩⟩ => hs.ef.sub (.c 2 rfl (.c 2 rfl (.c 2 rfl (.c 2 rfl .n))))) .n))))))))) ?_
      refine .c ?_ .n
      refine effOne rfl (opEx fun n15 => (opEx fun n14 => (gNone rfl (fStoreL 0 rfl rfl rfl rfl K23 rfl (rfl))))) ?_
      refine effStep 21 [] (by kernel_rfl) (closedEx fun n15 => (closedEx fun n14 => closedSt)) (hLeft [10] (by kernel_rfl) (.c (fun _ _ ⟨n15, ⟨n14, hs⟩⟩ => hs.ef.sub (.c 2 rfl (.c 2 rfl (.c 2 rfl (.c 2 rfl .n))))) .n)) ?_
      refine .c ?_ .n
      refine effOne rfl (opEx fun n15 => (opEx fun n14 => (gNone rfl (fStoreL 1 rfl rfl rfl rfl K23 rfl (rfl))))) ?_
      refine effDone (closedEx fun n15 => (closedEx fun n14 => closedSt)) (hLeft [] (by kernel_rfl) .n) (by kernel_rfl) ?_
      refine trEx fun n15 => ?_
      refine trEx fun n14 => ?_
      refine kThen ?_
      refine kRegion rfl ?_
      refine lV (yLoadA (vs := [_, _]) rfl A23 (cOwn 5 rfl rfl)) rfl rfl ?_
      refine lV (yFieldAddr rfl F23_0) rfl rfl ?_
      refine lV (yLoad1 rfl O3 (cOwn 1 rfl rfl)) rfl rfl ?_
      refine lV (yFieldAddr rfl F23_1) rfl rfl ?_
      refine lV (yLoad1 rfl O3 (cOwn 0 rfl rfl)) rfl rfl ?_
      refine lV (ySub rfl rfl (by omega)) rfl rfl ?_
      refine lV (yFieldAddr rfl F23_1) rfl rfl ?_
      refine lV (yLoad1 rfl O3 (cOwn 1 rfl rfl)) rfl rfl ?_
      refine lV (yFieldAddr rfl F23_0) rfl rfl ?_
      refine lV (yLoad1 rfl O3 (cOwn 0 rfl rfl)) rfl rfl ?_
      refine lV (ySub rfl rfl (by omega)) rfl rfl ?_
      refine lV (yBuild (.c rfl (.c rfl .n)) (fun w => B23_0_1 w)) rfl rfl ?_
      refine lV (yMove rfl) rfl rfl ?_
      refine lV (yFieldAddr rfl F23_0) rfl rfl ?_
      refine lV (yLoad1 rfl O3 (cOwn 2 rfl rfl)) rfl rfl ?_
      refine lV (yEql rfl rfl) rfl rfl ?_
      refine knownB (t := 68) (c := decide ((j : Int) = 0)) rfl (by rw [decide_eq_decide]; omega) ?_
      refine lV (yCall rfl (.c rfl (.c rfl (.c rfl .n))) C61 (fun w hw => rhull_any (hullF (bfF p m n d s c.1) j) (bfF p m n d s c.1 j) (decide ((j : Int) = 0)) w)) rfl rfl ?_
      refine same (t := 69) (u := .agg (rowE (hullF (bfF p m n d s c.1) (j + 1))).toArray) rfl (by rw [hullF_succ]) ?_
      refine lE rfl ?_
      refine eStoreL 5 rfl rfl rfl rfl K23 rfl (rfl) ?_
      refine lNil ?_
      refine kInN ?_
      refine kThen ?_
      refine kRegion rfl ?_
      refine lV (yMove rfl) rfl rfl ?_
      refine lV (yAdd rfl rfl (by omega)) rfl rfl ?_
      refine lV (yAssign rfl) rfl rfl ?_
      refine lNil ?_
      exact kRoundX (j + 1) (by omega) (by omega) rfl (.c (by show some (i64 _) = _; congr 2; push_cast; omega) .n) (.c rfl (.c rfl (.c rfl (.c rfl (.c rfl (.c rfl (.c rfl (.c rfl (.c rfl (.c rfl (.c rfl (.c rfl (.c rfl (.c rfl (.c rfl (.c rfl (.c rfl (.c rfl (.c rfl (.c rfl (.c rfl .n))))))))))))))))))))) (.c 2 rfl (.c 2 rfl (.c 2 rfl (.c 2 rfl .n))))
  · refine kIfF rfl ?_
    refine kExit ?_
    refine kThenX ?_
    refine kThenX ?_
    refine kInX ?_
    refine kThen ?_
    refine kSeq ?_
    refine kRegion rfl ?_
    refine lV (yLoadA (vs := [_, _]) rfl A23 (cOwn 3 rfl rfl)) rfl rfl ?_
    refine lE rfl ?_
    refine eStoreL 1 rfl rfl rfl rfl K23 rfl (rfl) ?_
    refine lNil ?_
    refine kThen ?_
    refine kRet ?_
    refine fRet rfl (.cA (us := [_, _]) rfl A23 (cOwn 1 rfl rfl) .n) (endRet ?_)
    obtain rfl : j = (c.2 - c.1 + 1).toNat := by omega
    rfl
theorem rbetween_any (y : Option Addr × Nat) (p : Plt) (m n : Nat) (s : Int) (d : Bool) (w : World) (hm : InP w y p) (hp : PltOk p) (hmn : m < p.st.length ∧ n < p.st.length) (hs : s ∈ scalesP p (knownP p)) :
    Calls Try.prog 71 [.agg (pltC y p).toArray, i64 (m : Nat), i64 (n : Nat), i64 s, .bool d].toArray w (Ret w (.agg (rowE (btV p m n d s)).toArray)) := by
  by_cases hk : knownP p = 0
  · exact rbetween_0 y p m n s d w hm hp hmn hs hk
  · exact rbetween_1 y p m n s d w hm hp hmn hs hk
end Go.Proofs.Ytlcdohhhhlhpmaa
