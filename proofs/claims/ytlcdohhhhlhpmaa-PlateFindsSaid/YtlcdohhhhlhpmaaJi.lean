/-
  Walks: PlateStars.
-/
import Derived.Test.YtlcdohhhhlhpmaaJh
namespace Go.Proofs.Ytlcdohhhhlhpmaa
open ZW

section
variable {P : Program} {S : Slots} {C : World → Prop} {dst : Option Tmp} {ty : TypeId} {pos : String} {af : Array Edge} {g : Option (Nat × Bool)}
theorem yMax5 {x y z u v : Operand} {k : IntKind} {a b c d e : Int} {tys : Array TypeId} (hx : opd S x = some (.int k a)) (hy : opd S y = some (.int k b)) (hz : opd S z = some (.int k c)) (hu : opd S u = some (.int k d)) (hv : opd S v = some (.int k e)) :
    YV P S C ⟨dst, .call ⟨.builtin .max, #[x, y, z, u, v], tys⟩, ty, pos, af, g⟩ (.int k (max (max (max (max a b) c) d) e)) :=
  .pure fun ρ hk w => by
    have hm : ∀ a b : Int, (if a < b then b else a) = max a b := fun a b => by split <;> omega
    simp [execOp, resolve, hk x _ hx, hk y _ hy, hk z _ hz, hk u _ hu, hk v _ hv, Sem.run_pure, invoke, builtin, Builtin.max_, Builtin.max2, hm]
end
set_option maxRecDepth 100000 in
set_option maxHeartbeats 4000000 in
theorem heavy_any (y : Option Addr × Nat) (p : Plt) (a b : Int) (w : World) (hm : InP w y p) : Calls Try.prog 13 [.agg (pltC y p).toArray, i64 a, i64 b].toArray w
    (RetX w (fun v : Bool => v = false → p.st.length ≤ 30) (fun v => .bool v) (fun _ => []) (fun _ => [])) := by
  refine fEnter Try.func13 rfl Try.ntmps13 rfl ?_
  refine kSeq ?_
  refine kRegion rfl ?_
  refine lE rfl ?_
  refine eBoxA rfl fun n3 => ?_
  refine lV (yAssign rfl) rfl rfl ?_
  refine lNil ?_
  refine kThen ?_
  refine kSeq ?_
  refine kSeq ?_
  refine kRegion rfl ?_
  refine lV (yFieldAddr rfl F26_1) rfl rfl ?_
  refine lV (yLoad1 rfl O24 (cOwn 0 rfl rfl)) rfl rfl ?_
  refine lV (yLen rfl S24) rfl rfl ?_
  refine lV (yGtr rfl rfl) rfl rfl ?_
  refine split (t := 13) rfl (fun h13 => ?_) (fun h13 => ?_)
  · refine lNil ?_
    refine kThen ?_
    refine kIfT rfl ?_
    refine kSeq ?_
    refine kRegion rfl ?_
    refine lV (yAssign rfl) rfl rfl ?_
    refine lNil ?_
    refine kThen ?_
    refine kRet ?_
    refine kThenR ?_
    refine fRet rfl (.t rfl .n) ?_
    exact endX true (fun h => by cases h) rfl rfl .n
  · refine lNil ?_
    refine kThen ?_
    refine kIfF rfl ?_
    refine kSkip ?_
    refine kThen ?_
    refine kSeq ?_
    refine kSeq ?_
    refine kRegion rfl ?_
    refine lV (yLoadA (vs := [_, _, _]) rfl A26 (cOwn 0 rfl rfl)) rfl rfl ?_
    refine lV (yCall rfl (.c rfl .n) C23 (fun w hw => rplate_any y p w (hm.eff0 hw) (by omega))) rfl rfl ?_
    refine lV (yNot rfl) rfl rfl ?_
    refine splitB (t := 16) rfl (fun h16 => ?_) (fun h16 => ?_)
    · refine lNil ?_
      refine kThen ?_
      refine kIfT rfl ?_
      refine kSeq ?_
      refine kRegion rfl ?_
      refine lV (yAssign rfl) rfl rfl ?_
      refine lNil ?_
      refine kThen ?_
      refine kRet ?_
      refine kThenR ?_
      refine fRet rfl (.t rfl .n) ?_
      exact endX false (fun _ => by omega) rfl rfl .n
    · refine lNil ?_
      refine kThen ?_
      refine kIfF rfl ?_
      refine kSkip ?_
      refine kThen ?_
      refine kSeq ?_
      have hp : PltOk p := by simpa using h16
      have hl := hp.n
      refine kRegion rfl ?_
      refine lV (yAssign rfl) rfl rfl ?_
      refine lNil ?_
      refine kThen ?_
      refine kSeq ?_
      refine kSeq ?_
      refine kRegion rfl ?_
      refine lV (yFieldAddr rfl F26_1) rfl rfl ?_
      refine lV (yLoad1 rfl O24 (cOwn 0 rfl rfl)) rfl rfl ?_
      refine lV (yLen rfl S24) rfl rfl ?_
      refine lV (yMove rfl) rfl rfl ?_
      refine lNil ?_
      refine kThen ?_
      refine kBlock ?_
      refine kLoopX (ι := Nat × Int) (fun x => x.1 ≤ p.st.length) (fun x => [(20, i64 (x.1 : Nat)), (7, i64 x.2)]) [(0, _), (1, _), (2, _), (3, _), (6, _), (10, _), (11, _), (12, _), (13, _), (14, _), (15, _), (16, _), (17, _), (18, _), (19, _)] (fun x => []) (fun x => []) [(n3, _)] (fun x => p.st.length - x.1) (0, 0) (Nat.zero_le _) rfl (.c rfl (.c rfl .n)) (.c rfl (.c rfl (.c rfl (.c rfl (.c rfl (.c rfl (.c rfl (.c rfl (.c rfl (.c rfl (.c rfl (.c rfl (.c rfl (.c rfl (.c rfl .n))))))))))))))) (.c 0 rfl .n) ?_
      rintro ⟨i, m⟩ hi
      dsimp only at hi ⊢
      refine kSeq ?_
      refine kRegion rfl ?_
      refine lV (yLss rfl rfl) rfl rfl ?_
      refine lNil ?_
      refine kThen ?_
      refine kSeq ?_
      refine split (t := 21) rfl (fun h21 => ?_) (fun h21 => ?_)
      · refine kIfT rfl ?_
        refine kSkip ?_
        refine kThen ?_
        refine kSeq ?_
        refine kBlock ?_
        refine kSeq ?_
        refine kRegion rfl ?_
        refine lV (yIndexS  rfl rfl S24 (hm.r) ((by omega))) rfl rfl ?_
        refine lV (yLoadA (vs := [_, _, _, _, _, _, _, _, _]) rfl A58 (cSl0 (hm.r) ((by omega)) rfl)) rfl rfl ?_
        refine lE rfl ?_
        refine eAlloc Z58 fun n9 => ?_
        refine lE rfl ?_
        refine eStoreL 0 rfl rfl rfl rfl K58 rfl (rfl) ?_
        refine lNil ?_
        refine kThen ?_
        refine kSeq ?_
        refine kRegion rfl ?_
        refine lV (yFieldAddr rfl F58_2) rfl rfl ?_
        refine lV (yLoad1 rfl O4 (cOwn 0 rfl rfl)) rfl rfl ?_
        refine splitB (t := 25) rfl (fun h25 => ?_) (fun h25 => ?_)
        · refine lNil ?_
          refine kThen ?_
          refine kIfT rfl ?_
          have hs := hp.s _ (getD_mem (l := p.st) (i := i) (by omega) star0)
          have h1 := hs.1
          have h2 := hs.2.1
          have h3 := hs.2.2 h25
          unfold spanOk at h1 h2 h3
          refine kRegion rfl ?_
          refine lV (yMove rfl) rfl rfl ?_
          refine lV (yFieldAddr rfl F58_0) rfl rfl ?_
          refine lV (yFieldAddr rfl F23_1) rfl rfl ?_
          refine lV (yLoad1 rfl O3 (cOwn 0 rfl rfl)) rfl rfl ?_
          refine lV (yFieldAddr rfl F58_0) rfl rfl ?_
          refine lV (yFieldAddr rfl F23_0) rfl rfl ?_
          refine lV (yLoad1 rfl O3 (cOwn 0 rfl rfl)) rfl rfl ?_
          refine lV (ySub rfl rfl (by omega)) rfl rfl ?_
          refine lV (yFieldAddr rfl F58_1) rfl rfl ?_
          refine lV (yFieldAddr rfl F23_1) rfl rfl ?_
          refine lV (yLoad1 rfl O3 (cOwn 0 rfl rfl)) rfl rfl ?_
          refine lV (yFieldAddr rfl F58_1) rfl rfl ?_
          refine lV (yFieldAddr rfl F23_0) rfl rfl ?_
          refine lV (yLoad1 rfl O3 (cOwn 0 rfl rfl)) rfl rfl ?_
          refine lV (ySub rfl rfl (by omega)) rfl rfl ?_
          refine lV (yFieldAddr rfl F58_3) rfl rfl ?_
          refine lV (yFieldAddr rfl F23_1) rfl rfl ?_
          refine lV (yLoad1 rfl O3 (cOwn 0 rfl rfl)) rfl rfl ?_
          refine lV (yFieldAddr rfl F58_3) rfl rfl ?_
          refine lV (yFieldAddr rfl F23_0) rfl rfl ?_
          refine lV (yLoad1 rfl O3 (cOwn 0 rfl rfl)) rfl rfl ?_
          refine lV (ySub rfl rfl (by omega)) rfl rfl ?_
          refine lV (yFieldAddr rfl F58_4) rfl rfl ?_
          refine lV (yFieldAddr rfl F23_1) rfl rfl ?_
          refine lV (yLoad1 rfl O3 (cOwn 0 rfl rfl)) rfl rfl ?_
          refine lV (yFieldAddr rfl F58_4) rfl rfl ?_
          refine lV (yFieldAddr rfl F23_0) rfl rfl ?_
          refine lV (yLoad1 rfl O3 (cOwn 0 rfl rfl)) rfl rfl ?_
          refine lV (ySub rfl rfl (by omega)) rfl rfl ?_
          refine lV (yMax5 rfl rfl rfl rfl rfl) rfl rfl ?_
          refine lV (yAssign rfl) rfl rfl ?_
          refine lNil ?_
          refine kInN ?_
          refine kThen ?_
          refine kRegion rfl ?_
          refine lV (yAdd rfl rfl (by omega)) rfl rfl ?_
          refine lV (yMove rfl) rfl rfl ?_
          refine lNil ?_
          exact kRoundX (i + 1, _) (by dsimp only; omega) (by dsimp only; omega) rfl (.c rfl (.c rfl .n)) (.c rfl (.c rfl (.c rfl (.c rfl (.c rfl (.c rfl (.c rfl (.c rfl (.c rfl (.c rfl (.c rfl (.c rfl (.c rfl (.c rfl (.c rfl .n))))))))))))))) (.c 1 rfl .n)
        · refine lNil ?_
          refine kThen ?_
          refine kIfF rfl ?_
          refine kSkip ?_
          refine kInN ?_
          refine kThen ?_
          refine kRegion rfl ?_
          refine lV (yAdd rfl rfl (by omega)) rfl rfl ?_
          refine lV (yMove rfl) rfl rfl ?_
          refine lNil ?_
          exact kRoundX (i + 1, m) (by dsimp only; omega) (by dsimp only; omega) rfl (.c rfl (.c rfl .n)) (.c rfl (.c rfl (.c rfl (.c rfl (.c rfl (.c rfl (.c rfl (.c rfl (.c rfl (.c rfl (.c rfl (.c rfl (.c rfl (.c rfl (.c rfl .n))))))))))))))) (.c 1 rfl .n)
      · refine kIfF rfl ?_
        refine kExit ?_
        refine kThenX ?_
        refine kThenX ?_
        refine kInX ?_
        refine kThen ?_
        refine kSeq ?_
        have hcc := hp.c
        unfold spanOk at hcc
        refine kRegion rfl ?_
        refine lV (yFieldAddr rfl F26_0) rfl rfl ?_
        refine lV (yFieldAddr rfl F23_1) rfl rfl ?_
        refine lV (yLoad1 rfl O3 (cOwn 0 rfl rfl)) rfl rfl ?_
        refine lV (yFieldAddr rfl F26_0) rfl rfl ?_
        refine lV (yFieldAddr rfl F23_0) rfl rfl ?_
        refine lV (yLoad1 rfl O3 (cOwn 0 rfl rfl)) rfl rfl ?_
        refine lV (ySub rfl rfl (by omega)) rfl rfl ?_
        refine lV (yMove rfl) rfl rfl ?_
        refine lV (yGtr rfl rfl) rfl rfl ?_
        refine split (t := 65) rfl (fun h65 => ?_) (fun h65 => ?_)
        · refine lV (yMove rfl) rfl rfl ?_
          refine lGN rfl rfl rfl rfl rfl ?_
          refine lGN rfl rfl rfl rfl rfl ?_
          refine lGN rfl rfl rfl rfl rfl ?_
          refine lV (yPickT rfl rfl) rfl rfl ?_
          refine lV (yAssign rfl) rfl rfl ?_
          refine lNil ?_
          refine kThen ?_
          refine kRet ?_
          refine fRet rfl (.t rfl .n) ?_
          exact endX _ (fun _ => by omega) rfl rfl .n
        · refine lV (yMove rfl) rfl rfl ?_
          refine lGY rfl rfl rfl (oV (yMove rfl) rfl ?_)
          refine lGY rfl rfl rfl (oV (yMove rfl) rfl ?_)
          refine lGY rfl rfl rfl (oV (yGtr rfl rfl) rfl ?_)
          refine lV (yPickF rfl rfl) rfl rfl ?_
          refine lV (yAssign rfl) rfl rfl ?_
          refine lNil ?_
          refine kThen ?_
          refine kRet ?_
          refine fRet rfl (.t rfl .n) ?_
          exact endX _ (fun _ => by omega) rfl rfl .n
set_option maxRecDepth 100000 in
set_option maxHeartbeats 8000000 in
theorem pstars_any (y : Option Addr × Nat) (p : Plt) (a b : Int) (w : World) (hm : InP w y p) :
    Calls Try.prog 3 [.agg (pltC y p).toArray, i64 a, i64 b].toArray w (Ret w (.bool true)) := by
  refine fEnter Try.func3 rfl Try.ntmps3 rfl ?_
  refine kSeq ?_
  refine kRegion rfl ?_
  refine lE rfl ?_
  refine eBoxA rfl fun n3 => ?_
  refine lV (yAssign rfl) rfl rfl ?_
  refine lNil ?_
  refine kThen ?_
  refine kSeq ?_
  refine kSeq ?_
  refine kRegion rfl ?_
  refine lV (yLoadA (vs := [_, _, _]) rfl A26 (cOwn 0 rfl rfl)) rfl rfl ?_
  refine lE rfl ?_
  refine eCallX rfl (.c rfl (.c rfl (.c rfl .n))) C13 (fun w hw => heavy_any y p 100 200 w (hm.eff0 hw)) fun v hv => ?_
  refine splitB (t := 30) rfl (fun h30 => ?_) (fun h30 => ?_)
  · refine lNil ?_
    refine kThen ?_
    refine kIfT rfl ?_
    refine kSeq ?_
    refine kRegion rfl ?_
    refine lV (yCall rfl .n C14 (fun w hw => alive_any w)) rfl rfl ?_
    refine lV (yAssign rfl) rfl rfl ?_
    refine lNil ?_
    refine kThen ?_
    refine kRet ?_
    refine kThenR ?_
    refine fRet rfl (.t rfl .n) (endRet ?_)
    rfl
  · refine lNil ?_
    refine kThen ?_
    refine kIfF rfl ?_
    refine kSkip ?_
    refine kThen ?_
    refine kSeq ?_
    have hL := hv h30
    have hL6 : p.st.length ≤ 1000000 := by omega
    refine kRegion rfl ?_
    refine lV (yLoadA (vs := [_, _, _]) rfl A26 (cOwn 0 rfl rfl)) rfl rfl ?_
    refine lV (yCall rfl (.c rfl .n) C15 (fun w hw => scale_any y p w (hm.eff0 hw))) rfl rfl ?_
    refine lV (yMove rfl) rfl rfl ?_
    refine lV (yExtract rfl rfl) rfl rfl ?_
    refine lV (yExtract rfl rfl) rfl rfl ?_
    refine lE rfl ?_
    refine eAlloc Z23 fun n7 => ?_
    refine lE rfl ?_
    refine eStoreL 0 rfl rfl rfl rfl K23 rfl (rfl) ?_
    refine lV (yAssign rfl) rfl rfl ?_
    refine lNil ?_
    refine kThen ?_
    refine kSeq ?_
    refine kRegion rfl ?_
    refine lV (yLoadA (vs := [_, _, _]) rfl A26 (cOwn 1 rfl rfl)) rfl rfl ?_
    refine lV (yCall rfl (.c rfl .n) C16 (fun w hw => rscale_any y p w (hm.eff0 hw) hL)) rfl rfl ?_
    refine lV (yMove rfl) rfl rfl ?_
    refine lV (yExtract rfl rfl) rfl rfl ?_
    refine lV (yExtract rfl rfl) rfl rfl ?_
    refine lE rfl ?_
    refine eAlloc Z23 fun n9 => ?_
    refine lE rfl ?_
    refine eStoreL 0 rfl rfl rfl rfl K23 rfl (rfl) ?_
    refine lV (yAssign rfl) rfl rfl ?_
    refine lNil ?_
    refine kThen ?_
    refine kSeq ?_
    refine kRegion rfl ?_
    refine lV (yLoadA (vs := [_, _, _]) rfl A26 (cOwn 2 rfl rfl)) rfl rfl ?_
    refine lV (yCall rfl (.c rfl .n) C17 (fun w hw => zero_any y p w (hm.eff0 hw))) rfl rfl ?_
    refine lV (yMove rfl) rfl rfl ?_
    refine lV (yExtract rfl rfl) rfl rfl ?_
    refine lV (yExtract rfl rfl) rfl rfl ?_
    refine lV (yExtract rfl rfl) rfl rfl ?_
    refine lE rfl ?_
    refine eAlloc Z23 fun n11 => ?_
    refine lE rfl ?_
    refine eAlloc Z23 fun n12 => ?_
    refine lE rfl ?_
    refine eStoreL 1 rfl rfl rfl rfl K23 rfl (rfl) ?_
    refine lE rfl ?_
    refine eStoreL 0 rfl rfl rfl rfl K23 rfl (rfl) ?_
    refine lV (yAssign rfl) rfl rfl ?_
    refine lNil ?_
    refine kThen ?_
    refine kSeq ?_
    refine kRegion rfl ?_
    refine lV (yLoadA (vs := [_, _, _]) rfl A26 (cOwn 4 rfl rfl)) rfl rfl ?_
    refine lV (yCall rfl (.c rfl .n) C18 (fun w hw => rzero_any y p w (hm.eff0 hw) hL)) rfl rfl ?_
    refine lV (yMove rfl) rfl rfl ?_
    refine lV (yExtract rfl rfl) rfl rfl ?_
    refine lV (yExtract rfl rfl) rfl rfl ?_
    refine lV (yExtract rfl rfl) rfl rfl ?_
    refine lE rfl ?_
    refine eAlloc Z23 fun n14 => ?_
    refine lE rfl ?_
    refine eAlloc Z23 fun n15 => ?_
    refine lE rfl ?_
    refine eStoreL 1 rfl rfl rfl rfl K23 rfl (rfl) ?_
    refine lE rfl ?_
    refine eStoreL 0 rfl rfl rfl rfl K23 rfl (rfl) ?_
    refine lV (yAssign rfl) rfl rfl ?_
    refine lNil ?_
    refine kThen ?_
    refine kSeq ?_
    refine kRegion rfl ?_
    refine lV (yLoadA (vs := [_, _, _]) rfl A26 (cOwn 6 rfl rfl)) rfl rfl ?_
    refine lV (yMove rfl) rfl rfl ?_
    refine lV (yCall rfl (.c rfl (.c rfl .n)) C19 (fun w hw => star_any y p a w (hm.eff0 hw) hL6)) rfl rfl ?_
    refine lV (yMove rfl) rfl rfl ?_
    refine lV (yExtract rfl rfl) rfl rfl ?_
    refine lV (yExtract rfl rfl) rfl rfl ?_
    refine lV (yExtract rfl rfl) rfl rfl ?_
    refine lE rfl ?_
    refine eAlloc Z23 fun n17 => ?_
    refine lE rfl ?_
    refine eAlloc Z23 fun n18 => ?_
    refine lE rfl ?_
    refine eStoreL 1 rfl rfl rfl rfl K23 rfl (rfl) ?_
    refine lE rfl ?_
    refine eStoreL 0 rfl rfl rfl rfl K23 rfl (rfl) ?_
    refine lV (yAssign rfl) rfl rfl ?_
    refine lNil ?_
    refine kThen ?_
    refine kSeq ?_
    refine kRegion rfl ?_
    refine lV (yLoadA (vs := [_, _, _]) rfl A26 (cOwn 8 rfl rfl)) rfl rfl ?_
    refine lV (yMove rfl) rfl rfl ?_
    refine lV (yCall rfl (.c rfl (.c rfl .n)) C20 (fun w hw => rstar_any y p a w (hm.eff0 hw) hL)) rfl rfl ?_
    refine lV (yMove rfl) rfl rfl ?_
    refine lV (yExtract rfl rfl) rfl rfl ?_
    refine lV (yExtract rfl rfl) rfl rfl ?_
    refine lV (yExtract rfl rfl) rfl rfl ?_
    refine lE rfl ?_
    refine eAlloc Z23 fun n20 => ?_
    refine lE rfl ?_
    refine eAlloc Z23 fun n21 => ?_
    refine lE rfl ?_
    refine eStoreL 1 rfl rfl rfl rfl K23 rfl (rfl) ?_
    refine lE rfl ?_
    refine eStoreL 0 rfl rfl rfl rfl K23 rfl (rfl) ?_
    refine lV (yAssign rfl) rfl rfl ?_
    refine lNil ?_
    refine kThen ?_
    refine kSeq ?_
    refine kRegion rfl ?_
    refine lV (yLoadA (vs := [_, _, _]) rfl A26 (cOwn 10 rfl rfl)) rfl rfl ?_
    refine lV (yMove rfl) rfl rfl ?_
    refine lV (yMove rfl) rfl rfl ?_
    refine lV (yCall rfl (.c rfl (.c rfl (.c rfl .n))) C21 (fun w hw => apart_any y p a b w (hm.eff0 hw) hL6)) rfl rfl ?_
    refine lV (yMove rfl) rfl rfl ?_
    refine lV (yExtract rfl rfl) rfl rfl ?_
    refine lV (yExtract rfl rfl) rfl rfl ?_
    refine lV (yExtract rfl rfl) rfl rfl ?_
    refine lE rfl ?_
    refine eAlloc Z23 fun n23 => ?_
    refine lE rfl ?_
    refine eAlloc Z23 fun n24 => ?_
    refine lE rfl ?_
    refine eStoreL 1 rfl rfl rfl rfl K23 rfl (rfl) ?_
    refine lE rfl ?_
    refine eStoreL 0 rfl rfl rfl rfl K23 rfl (rfl) ?_
    refine lV (yAssign rfl) rfl rfl ?_
    refine lNil ?_
    refine kThen ?_
    refine kSeq ?_
    refine kRegion rfl ?_
    refine lV (yLoadA (vs := [_, _, _]) rfl A26 (cOwn 12 rfl rfl)) rfl rfl ?_
    refine lV (yMove rfl) rfl rfl ?_
    refine lV (yMove rfl) rfl rfl ?_
    refine lV (yCall rfl (.c rfl (.c rfl (.c rfl .n))) C22 (fun w hw => rapart_any y p a b w (hm.eff0 hw) hL)) rfl rfl ?_
    refine lV (yMove rfl) rfl rfl ?_
    refine lV (yExtract rfl rfl) rfl rfl ?_
    refine lV (yExtract rfl rfl) rfl rfl ?_
    refine lV (yExtract rfl rfl) rfl rfl ?_
    refine lE rfl ?_
    refine eAlloc Z23 fun n26 => ?_
    refine lE rfl ?_
    refine eAlloc Z23 fun n27 => ?_
    refine lE rfl ?_
    refine eStoreL 1 rfl rfl rfl rfl K23 rfl (rfl) ?_
    refine lE rfl ?_
    refine eStoreL 0 rfl rfl rfl rfl K23 rfl (rfl) ?_
    refine lV (yAssign rfl) rfl rfl ?_
    refine lNil ?_
    refine kThen ?_
    refine kSeq ?_
    refine kRegion rfl ?_
    refine lV (yLoadA (vs := [_, _]) rfl A23 (cOwn 13 rfl rfl)) rfl rfl ?_
    refine lV (yLoadA (vs := [_, _]) rfl A23 (cOwn 12 rfl rfl)) rfl rfl ?_
    refine lV (yEqAgg rfl rfl G23 (fun w => Q23 w)) rfl rfl ?_
    refine knownB (t := 86) (c := true) rfl (by simp) ?_
    refine lV (yMove rfl) rfl rfl ?_
    refine lGY rfl rfl rfl (oV (yMove rfl) rfl ?_)
    refine lGY rfl rfl rfl (oV (yMove rfl) rfl ?_)
    refine lGY rfl rfl rfl (oV (yEql rfl rfl) rfl ?_)
    refine knownB (t := 90) (c := true) rfl (by simp) ?_
    refine lV (yPickT rfl rfl) rfl rfl ?_
    refine lV (yMove rfl) rfl rfl ?_
    refine lGY rfl rfl rfl (oV (yLoadA (vs := [_, _]) rfl A23 (cOwn 11 rfl rfl)) rfl ?_)
    refine lGY rfl rfl rfl (oV (yLoadA (vs := [_, _]) rfl A23 (cOwn 9 rfl rfl)) rfl ?_)
    refine lGY rfl rfl rfl (oV (yEqAgg rfl rfl G23 (fun w => Q23 w)) rfl ?_)
    refine knownB (t := 95) (c := true) rfl (by simp) ?_
    refine lV (yPickT rfl rfl) rfl rfl ?_
    refine lV (yMove rfl) rfl rfl ?_
    refine lGY rfl rfl rfl (oV (yLoadA (vs := [_, _]) rfl A23 (cOwn 10 rfl rfl)) rfl ?_)
    refine lGY rfl rfl rfl (oV (yLoadA (vs := [_, _]) rfl A23 (cOwn 8 rfl rfl)) rfl ?_)
    refine lGY rfl rfl rfl (oV (yEqAgg rfl rfl G23 (fun w => Q23 w)) rfl ?_)
    refine knownB (t := 100) (c := true) rfl (by simp) ?_
    refine lV (yPickT rfl rfl) rfl rfl ?_
    refine lV (yMove rfl) rfl rfl ?_
    refine lGY rfl rfl rfl (oV (yMove rfl) rfl ?_)
    refine lGY rfl rfl rfl (oV (yMove rfl) rfl ?_)
    refine lGY rfl rfl rfl (oV (yEql rfl rfl) rfl ?_)
    refine knownB (t := 105) (c := true) rfl (by simp) ?_
    refine lV (yPickT rfl rfl) rfl rfl ?_
    refine lV (yMove rfl) rfl rfl ?_
    refine lGY rfl rfl rfl (oV (yLoadA (vs := [_, _]) rfl A23 (cOwn 7 rfl rfl)) rfl ?_)
    refine lGY rfl rfl rfl (oV (yLoadA (vs := [_, _]) rfl A23 (cOwn 5 rfl rfl)) rfl ?_)
    refine lGY rfl rfl rfl (oV (yEqAgg rfl rfl G23 (fun w => Q23 w)) rfl ?_)
    refine knownB (t := 110) (c := true) rfl (by simp) ?_
    refine lV (yPickT rfl rfl) rfl rfl ?_
    refine lV (yMove rfl) rfl rfl ?_
    refine lGY rfl rfl rfl (oV (yLoadA (vs := [_, _]) rfl A23 (cOwn 6 rfl rfl)) rfl ?_)
    refine lGY rfl rfl rfl (oV (yLoadA (vs := [_, _]) rfl A23 (cOwn 4 rfl rfl)) rfl ?_)
    refine lGY rfl rfl rfl (oV (yEqAgg rfl rfl G23 (fun w => Q23 w)) rfl ?_)
    refine knownB (t := 115) (c := true) rfl (by simp) ?_
    refine lV (yPickT rfl rfl) rfl rfl ?_
    refine lV (yMove rfl) rfl rfl ?_
    refine lGY rfl rfl rfl (oV (yMove rfl) rfl ?_)
    refine lGY rfl rfl rfl (oV (yMove rfl) rfl ?_)
    refine lGY rfl rfl rfl (oV (yEql rfl rfl) rfl ?_)
    refine knownB (t := 120) (c := true) rfl (by simp) ?_
    refine lV (yPickT rfl rfl) rfl rfl ?_
    refine lV (yMove rfl) rfl rfl ?_
    refine lGY rfl rfl rfl (oV (yLoadA (vs := [_, _]) rfl A23 (cOwn 3 rfl rfl)) rfl ?_)
    refine lGY rfl rfl rfl (oV (yLoadA (vs := [_, _]) rfl A23 (cOwn 1 rfl rfl)) rfl ?_)
    refine lGY rfl rfl rfl (oV (yEqAgg rfl rfl G23 (fun w => Q23 w)) rfl ?_)
    refine knownB (t := 125) (c := true) rfl (by simp) ?_
    refine lV (yPickT rfl rfl) rfl rfl ?_
    refine lV (yMove rfl) rfl rfl ?_
    refine lGY rfl rfl rfl (oV (yLoadA (vs := [_, _]) rfl A23 (cOwn 2 rfl rfl)) rfl ?_)
    refine lGY rfl rfl rfl (oV (yLoadA (vs := [_, _]) rfl A23 (cOwn 0 rfl rfl)) rfl ?_)
    refine lGY rfl rfl rfl (oV (yEqAgg rfl rfl G23 (fun w => Q23 w)) rfl ?_)
    refine knownB (t := 130) (c := true) rfl (by simp) ?_
    refine lV (yPickT rfl rfl) rfl rfl ?_
    refine lV (yMove rfl) rfl rfl ?_
    refine lGY rfl rfl rfl (oV (yMove rfl) rfl ?_)
    refine lGY rfl rfl rfl (oV (yMove rfl) rfl ?_)
    refine lGY rfl rfl rfl (oV (yEql rfl rfl) rfl ?_)
    refine knownB (t := 135) (c := true) rfl (by simp) ?_
    refine lV (yPickT rfl rfl) rfl rfl ?_
    refine lV (yMove rfl) rfl rfl ?_
    refine lGY rfl rfl rfl (oV (yCall rfl .n C14 (fun w hw => alive_any w)) rfl ?_)
    refine lV (yPickT rfl rfl) rfl rfl ?_
    refine lV (yAssign rfl) rfl rfl ?_
    refine lNil ?_
    refine kThen ?_
    refine kRet ?_
    refine fRet rfl (.t rfl .n) (endRet ?_)
    rfl
end Go.Proofs.Ytlcdohhhhlhpmaa
