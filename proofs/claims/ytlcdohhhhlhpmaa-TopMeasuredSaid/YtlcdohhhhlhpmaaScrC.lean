/-
  Texts Wf, Wg, Wh, Wi, Wj in one.
-/
import Derived.Test.YtlcdohhhhlhpmaaScrB
namespace Go.Proofs.Ytlcdohhhhlhpmaa.Scr
open ZW

theorem travel_bd {m : Meas} (hM : MeasOk m) {n : Int} (hn : readOk m n) : -200 ≤ (travelP m n).1 ∧ (travelP m n).1 ≤ (travelP m n).2 ∧ (travelP m n).2 ≤ 41000 := by
  have h1 := hM.s.e _ (getD_mem (readOk_lt hn).1 (0, 0))
  have h2 := hM.s.y
  have h3 := hM.s.n
  unfold readOk at hn
  unfold spanOk at h1 h2
  simp only [travelP]
  omega
theorem told_bd {m : Meas} (hM : MeasOk m) {i : Nat} (hi : i < m.sets.length) : ((toldP m).getD i told0).1 < 6 ∧ -200 ≤ ((toldP m).getD i told0).2.1.1 ∧ ((toldP m).getD i told0).2.1.1 ≤ ((toldP m).getD i told0).2.1.2 ∧ ((toldP m).getD i told0).2.1.2 ≤ 41000 := by
  rw [told_get m hi]
  have h := hM.a _ (getD_mem hi (0, 0, false))
  have h1 := hM.i
  have h2 := travel_bd hM h.2
  refine ⟨?_, h2⟩
  omega
theorem Bd.put {A : Int} {b : BMat} (h : Bd A b) {f t : Nat} {x : Int × Int} (hf : f < 8) (ht : t < 8) (h1 : -A ≤ x.2) (h2 : x.1 ≤ A) : Bd A (putP b f t x) := by
  intro i k hi hk
  have h3 := h i k hi hk
  have h4 := h f t hf ht
  have h5 := h t f ht hf
  unfold putP bUpd
  split
  · omega
  · split <;> omega
theorem Bd.free : Bd 300000 freeP := by
  intro i k _ _
  unfold freeP never
  split <;> omega
theorem tellsP_succ (b : BMat) (l : List Told) (s n : Nat) : tellsP b l s (n + 1) = if s.testBit n then tellP (tellsP b l s n) (l.getD n told0) else tellsP b l s n := range_foldl_succ _ _ _
theorem tells_bd {m : Meas} (hM : MeasOk m) (s : Nat) : ∀ n, n ≤ m.sets.length → Bd 300000 (tellsP (putP freeP 0 1 m.sum) (toldP m) s n)
  | 0, _ => by
    have := hM.u
    unfold spanOk at this
    exact Bd.free.put (by omega) (by omega) (by omega) (by omega)
  | n + 1, hn => by
    have ih := tells_bd hM s n (by omega)
    have ht := told_bd hM (i := n) (by omega)
    rw [tellsP_succ]
    split
    · unfold tellP
      split
      · exact ih.put (by omega) (by omega) (by omega) (by omega)
      · exact ih.put (by omega) (by omega) (by omega) (by omega)
    · exact ih
theorem bit_iff (s i : Nat) : (((s / 2 ^ i &&& 1 : Nat) : Int) = 1) ↔ s.testBit i = true := by
  rw [Nat.testBit_eq_decide_div_mod_eq, decide_eq_true_eq, Nat.and_one_is_mod]
  omega

theorem tell_eq {c : BMat} {t : Told} {r : Bool} (h : t.2.2 = r) : tellP c t = tellP c (t.1, t.2.1, r) := by subst h; rfl

theorem tell_eqF {c : BMat} {t : Told} (h : ¬ t.2.2 = true) : tellP c t = tellP c (t.1, t.2.1, false) := tell_eq (by simpa using h)

set_option maxRecDepth 100000 in
theorem tight_any (nm : Nat) (y : Loc) (m : Meas) (g : Own) (s : Nat) (w : World) (hs : s < 2 ^ 63) (hms : InMs w nm y m g) (hM : MeasOk m) :
    Calls Try.prog 121 [.pointer (some ⟨nm, 0, none⟩), .int .u64 (s : Nat)].toArray w (Ret w (.tuple [.agg (bCells (tightB m s)).toArray, .bool (decide (diagOk (tightB m s)))].toArray)) := by
  have hN := hM.n
  refine fEnter Try.func121 rfl Try.ntmps121 rfl ?_
  refine kSeq ?_
  refine kRegion rfl ?_
  refine lE rfl ?_
  refine eAlloc Z124 fun n4 => ?_
  refine lV (yAssign rfl) rfl rfl ?_
  refine lNil ?_
  refine kThen ?_
  refine kSeq ?_
  refine kRegion rfl ?_
  refine lV (yCall rfl .n C136 (fun w hw => free_any w)) rfl rfl ?_
  refine lE rfl ?_
  refine eAlloc Z124 fun n6 => ?_
  refine lE rfl ?_
  refine eStoreL 0 rfl rfl rfl rfl K124 rfl (rfl) ?_
  refine lNil ?_
  rw [bWrAll _ freeP rfl]
  refine kThen ?_
  refine kSeq ?_
  refine kDrawE [(5, none), (11, none)] [] [0, 1, 2, 3, 4, 5, 6, 7, 8, 9, 10, 11, 12] 1 hMix (by kernel_rfl) ?_
  refine .run rfl (yMove rfl) rfl rfl ?_
  refine .run rfl (yNilCheckP rfl) rfl rfl ?_
  refine .run rfl (yFieldAddr rfl F151_0) rfl rfl ?_
  refine .run rfl (yFieldAddr rfl F75_2) rfl rfl ?_
  refine .run rfl (yFieldAddr rfl F23_0) rfl rfl ?_
  refine .run rfl (yLoad1 rfl O3 (cOldB (hms.b) rfl)) rfl rfl ?_
  refine .run rfl (yMove rfl) rfl rfl ?_
  refine .run rfl (yNilCheckP rfl) rfl rfl ?_
  refine .run rfl (yFieldAddr rfl F151_0) rfl rfl ?_
  refine .run rfl (yFieldAddr rfl F75_2) rfl rfl ?_
  refine .run rfl (yFieldAddr rfl F23_1) rfl rfl ?_
  refine .run rfl (yLoad1 rfl O3 (cOldB (hms.b) rfl)) rfl rfl ?_
  refine .run rfl (yBuild (.c rfl (.c rfl .n)) (fun w => B171_0_1 w)) rfl rfl ?_
  refine .done ?_
  refine effStep 13 [] (by kernel_rfl) closedSt (hLeft [5, 11] (by kernel_rfl) (.c (fun _ _ hs => hs.ef) (.c (fun _ _ hs => hs.ef) .n))) ?_
  refine .c ?_ .n
  refine effOne rfl (gNone rfl (eCallW 0 rfl rfl (.c rfl (.c rfl (.c rfl (.c rfl .n)))) C137 (fun w hw hb => put_any freeP n6 0 1 m.sum.1 m.sum.2 w hb (by omega) (by omega) (by have := hM.u; unfold spanOk at this; omega)) trSelf)) ?_
  refine effDone closedSt (hLeft [] (by kernel_rfl) .n) (by kernel_rfl) ?_
  refine kThen ?_
  refine kSeq ?_
  refine kSeq ?_
  refine kRegion rfl ?_
  refine lV (yMove rfl) rfl rfl ?_
  refine lV (yNilCheckP rfl) rfl rfl ?_
  refine lV (yFieldAddr rfl F151_1) rfl rfl ?_
  refine lV (yLoad1 rfl O149 (cOldB (hms.b) rfl)) rfl rfl ?_
  refine lV (yLen rfl S149) rfl rfl ?_
  refine lV (yMove rfl) rfl rfl ?_
  refine lNil ?_
  refine kThen ?_
  refine kBlock ?_
  refine kLoopX (ι := Nat × BMat) (fun x => x.1 ≤ m.sets.length ∧ x.2 = tellsP (putP freeP 0 1 m.sum) (toldP m) s x.1) (fun x => [(30, i64 (x.1 : Nat))]) [(0, _), (1, _), (4, _), (5, _), (10, _), (6, _), (11, _), (12, _), (13, _), (14, _), (15, _), (16, _), (17, _), (18, _), (19, _), (20, _), (21, _), (22, _), (23, _), (24, _), (25, _), (26, _), (27, _), (28, _), (29, _)] (fun x => []) (fun x => [(n6, blk (bCells x.2) 124)]) [(n4, _)] (fun x => m.sets.length - x.1) (0, putP freeP 0 1 m.sum) (⟨Nat.zero_le _, rfl⟩) rfl (.c rfl .n) (.c rfl (.c rfl (.c rfl (.c rfl (.c rfl (.c rfl (.c rfl (.c rfl (.c rfl (.c rfl (.c rfl (.c rfl (.c rfl (.c rfl (.c rfl (.c rfl (.c rfl (.c rfl (.c rfl (.c rfl (.c rfl (.c rfl (.c rfl (.c rfl (.c rfl .n))))))))))))))))))))))))) (.c 1 rfl (.c 0 rfl .n)) ?_
  rintro ⟨i, c⟩ ⟨hi, hc⟩
  dsimp only at hi hc ⊢
  refine kSeq ?_
  refine kRegion rfl ?_
  refine lV (yLss rfl rfl) rfl rfl ?_
  refine lNil ?_
  refine kThen ?_
  refine kSeq ?_
  refine split (t := 31) rfl (fun h31 => ?_) (fun h31 => ?_)
  · refine kIfT rfl ?_
    refine kSkip ?_
    refine kThen ?_
    refine kSeq ?_
    refine kBlock ?_
    refine kSeq ?_
    refine kRegion rfl ?_
    refine lV (yMove rfl) rfl rfl ?_
    refine lV (yIndexS  rfl rfl S149 (hms.t.r) ((by omega))) rfl rfl ?_
    refine lV (yLoad1 rfl O179 (cSl0 (hms.t.r) ((by omega)) rfl)) rfl rfl ?_
    refine lV (yAssign rfl) rfl rfl ?_
    refine lV (yAssign rfl) rfl rfl ?_
    refine lNil ?_
    refine kThen ?_
    refine kSeq ?_
    refine kRegion rfl ?_
    refine lV (yMove rfl) rfl rfl ?_
    refine lV (yMove rfl) rfl rfl ?_
    refine lV (yShr rfl rfl rfl (by omega)) rfl rfl ?_
    refine lV (yAnd (b := 1) rfl rfl rfl (by have := Nat.div_le_self s (2 ^ i); omega) (by have := Nat.div_le_self s (2 ^ i); omega)) rfl rfl ?_
    refine lV (yEql rfl rfl) rfl rfl ?_
    refine lNil ?_
    refine kThen ?_
    refine split (t := 39) rfl (fun h39 => ?_) (fun h39 => ?_)
    · refine kIfT rfl ?_
      by_cases hrev : ((toldP m).getD i told0).2.2 = true
      · refine kRegion rfl ?_
        refine lV (yMove rfl) rfl rfl ?_
        refine same (t := 40) (u := .iface 174 (.agg [i64 (((toldP m).getD i told0).1 : Nat), i64 ((toldP m).getD i told0).2.1.1, i64 ((toldP m).getD i told0).2.1.2].toArray)) rfl (if_pos hrev) ?_
        refine lE rfl ?_
        refine eInvokeW 1 rfl rfl (.c rfl .n) MT174 C171 (fun w hw hb => turned_any c n6 _ _ w hb (told_bd hM (by omega)).1 (by have := told_bd hM (i := i) (by omega); omega)) ?_
        refine lNil ?_
        refine kInN ?_
        refine kThen ?_
        refine kRegion rfl ?_
        refine lV (yAdd rfl rfl (by omega)) rfl rfl ?_
        refine lV (yMove rfl) rfl rfl ?_
        refine lNil ?_
        exact kRoundX (i + 1, tellP c (((toldP m).getD i told0).1, ((toldP m).getD i told0).2.1, true)) (⟨by dsimp only; omega, by dsimp only; rw [tellsP_succ, ← hc]; first | (rw [if_pos ((bit_iff s i).1 h39)]; first | exact (tell_eq hrev).symm | exact (tell_eqF hrev).symm) | rw [if_neg fun hx => h39 ((bit_iff s i).2 hx)]⟩) (by dsimp only; omega) rfl (.c rfl .n) (.c rfl (.c rfl (.c rfl (.c rfl (.c rfl (.c rfl (.c rfl (.c rfl (.c rfl (.c rfl (.c rfl (.c rfl (.c rfl (.c rfl (.c rfl (.c rfl (.c rfl (.c rfl (.c rfl (.c rfl (.c rfl (.c rfl (.c rfl (.c rfl (.c rfl .n))))))))))))))))))))))))) (.c 0 rfl (.c 0 rfl .n))
      · refine kRegion rfl ?_
        refine lV (yMove rfl) rfl rfl ?_
        refine same (t := 40) (u := .iface 175 (.agg [i64 (((toldP m).getD i told0).1 : Nat), i64 ((toldP m).getD i told0).2.1.1, i64 ((toldP m).getD i told0).2.1.2].toArray)) rfl (if_neg hrev) ?_
        refine lE rfl ?_
        refine eInvokeW 1 rfl rfl (.c rfl .n) MT175 C172 (fun w hw hb => plain_any c n6 _ _ w hb (told_bd hM (by omega)).1 (by have := told_bd hM (i := i) (by omega); omega)) ?_
        refine lNil ?_
        refine kInN ?_
        refine kThen ?_
        refine kRegion rfl ?_
        refine lV (yAdd rfl rfl (by omega)) rfl rfl ?_
        refine lV (yMove rfl) rfl rfl ?_
        refine lNil ?_
        exact kRoundX (i + 1, tellP c (((toldP m).getD i told0).1, ((toldP m).getD i told0).2.1, false)) (⟨by dsimp only; omega, by dsimp only; rw [tellsP_succ, ← hc]; first | (rw [if_pos ((bit_iff s i).1 h39)]; first | exact (tell_eq hrev).symm | exact (tell_eqF hrev).symm) | rw [if_neg fun hx => h39 ((bit_iff s i).2 hx)]⟩) (by dsimp only; omega) rfl (.c rfl .n) (.c rfl (.c rfl (.c rfl (.c rfl (.c rfl (.c rfl (.c rfl (.c rfl (.c rfl (.c rfl (.c rfl (.c rfl (.c rfl (.c rfl (.c rfl (.c rfl (.c rfl (.c rfl (.c rfl (.c rfl (.c rfl (.c rfl (.c rfl (.c rfl (.c rfl .n))))))))))))))))))))))))) (.c 0 rfl (.c 0 rfl .n))
    · refine kIfF rfl ?_
      refine kSkip ?_
      refine kInN ?_
      refine kThen ?_
      refine kRegion rfl ?_
      refine lV (yAdd rfl rfl (by omega)) rfl rfl ?_
      refine lV (yMove rfl) rfl rfl ?_
      refine lNil ?_
      exact kRoundX (i + 1, c) (⟨by dsimp only; omega, by dsimp only; rw [tellsP_succ, ← hc]; first | (rw [if_pos ((bit_iff s i).1 h39)]; first | exact (tell_eq hrev).symm | exact (tell_eqF hrev).symm) | rw [if_neg fun hx => h39 ((bit_iff s i).2 hx)]⟩) (by dsimp only; omega) rfl (.c rfl .n) (.c rfl (.c rfl (.c rfl (.c rfl (.c rfl (.c rfl (.c rfl (.c rfl (.c rfl (.c rfl (.c rfl (.c rfl (.c rfl (.c rfl (.c rfl (.c rfl (.c rfl (.c rfl (.c rfl (.c rfl (.c rfl (.c rfl (.c rfl (.c rfl (.c rfl .n))))))))))))))))))))))))) (.c 0 rfl (.c 0 rfl .n))
  · refine kIfF rfl ?_
    refine kExit ?_
    refine kThenX ?_
    refine kThenX ?_
    refine kInX ?_
    refine kThen ?_
    refine kSeq ?_
    refine kRegion rfl ?_
    refine lE rfl ?_
    refine eCallW 1 rfl rfl (.c rfl .n) C138 (fun w hw hb => close_any c n6 300000 w hb (by omega) (by omega) (hc ▸ tells_bd hM s i hi)) ?_
    refine lV (yAssign rfl) rfl rfl ?_
    refine lNil ?_
    refine kThen ?_
    refine kSeq ?_
    refine kRegion rfl ?_
    refine lV (yLoadA (vs := (bCells _)) rfl A124 (cOwn 1 rfl (bSubAll _))) rfl rfl ?_
    refine lV (yMove rfl) rfl rfl ?_
    refine lE rfl ?_
    refine eStoreL 0 rfl rfl rfl rfl K124 rfl (rfl) ?_
    refine lV (yAssign rfl) rfl rfl ?_
    refine lNil ?_
    rw [bWrAll _ (closeP c 8) rfl]
    refine kThen ?_
    refine kRet ?_
    refine fRet rfl (.cA (us := (bCells _)) rfl A124 (cOwn 0 rfl (bSubAll _)) (.t rfl .n)) (endRet ?_)
    obtain rfl : i = m.sets.length := by omega
    simp only [packV, tightB, hc]
    rfl
/-- All settings, as a set. -/
def fullS (m : Meas) : Nat := 2 ^ m.sets.length - 1
theorem fullS_lt {m : Meas} (hM : MeasOk m) : fullS m < 4096 := by
  have hp : 2 ^ m.sets.length ≤ 2 ^ 12 := Nat.pow_le_pow_right (by omega) hM.n
  have hp0 : 0 < 2 ^ m.sets.length := Nat.two_pow_pos _
  unfold fullS; omega
theorem InMs.mk' {W w : World} {nm : Nat} {y : Loc} {m : Meas} {g : Own} {L : Heap} (hx : OS 1 g ((toldP m).map rowT)) (hm : InM W y m) (hw : Eff W [] L w) (hs : SubP (osL 179 g) L) (hb : w.heap[nm]? = some (blk (msC y m g m.sets.length) 151)) : InMs w nm y m g :=
  ⟨hb, (OS.rowsE told0 hx hw hs).congr (toldP_length m).symm fun _ _ => rfl, hm.eff hw⟩
/-- Images are of those that there are. -/
def imgsOk (m : Meas) (l : List Int) : Prop := ∀ n ∈ l, 0 ≤ n ∧ n ≤ m.images - 1
abbrev intC (l : List Int) (i : Nat) : List Value := [i64 (l.getD i 0)]
/-- What comes of asking for the truth. -/
def TruthR (w : World) (y : Loc) (m : Meas) (l : List Int) : Ending → World → Prop := fun e w' =>
  (imgsOk m l ∧ diagOk (tightB m (fullS m)) ∧ RetX w (fun x : Nat × Own => OS 1 x.2 ((toldP m).map rowT)) (fun x => .tuple [.pointer (some ⟨x.1, 0, none⟩), .agg (bCells (tightB m (fullS m))).toArray].toArray) (fun _ => []) (openL y m) e w') ∨
  (¬ imgsOk m l ∧ Pan w (.iface 146 (.agg [i64 2].toArray)) e w') ∨
  (imgsOk m l ∧ ¬ diagOk (tightB m (fullS m)) ∧ Pan w (.iface 146 (.agg [i64 10].toArray)) e w')

set_option maxRecDepth 100000 in
theorem truth_bad (y : Loc) (m : Meas) (v : Option Addr) (n c : Nat) (w : World) (hm : InM w y m) (hM : ¬ MeasOk m) : Calls Try.prog 98 [.agg (measC y m).toArray, .slice v n c].toArray w (Pan w (.iface 146 (.agg [i64 1].toArray))) := by
  refine fEnter Try.func98 rfl Try.ntmps98 rfl ?_
  refine kSeq ?_
  refine kRegion rfl ?_
  refine lE rfl ?_
  refine eBoxA rfl fun n2 => ?_
  refine lV (yAssign rfl) rfl rfl ?_
  refine lE rfl ?_
  refine eAlloc Z124 fun n5 => ?_
  refine lNil ?_
  refine kThen ?_
  refine kSeq ?_
  refine kRegion rfl ?_
  refine lV (yLoadA (vs := [_, _, _, _, _, _, _]) rfl A75 (cOwn 1 rfl rfl)) rfl rfl ?_
  refine lE rfl ?_
  refine eCallP rfl (.c rfl .n) C118 (fun w hw => open_bad y m w (hm.eff hw) hM) ?_
  refine kThenP ?_
  exact fPan (endPan rfl)

set_option maxRecDepth 100000 in
theorem truth_any (y : Loc) (m : Meas) (v : Option Addr) (c : Nat) (l : List Int) (k : Nat) (w : World) (hm : InM w y m) (hM : MeasOk m) (hk : k = l.length) (hv : SlE w v k 1 (intC l)) (hl : l.length ≤ 100) :
    Calls Try.prog 98 [.agg (measC y m).toArray, .slice v k c].toArray w (TruthR w y m l) := by
  have hI := hM.i
  have hF := fullS_lt hM
  subst hk
  refine fEnter Try.func98 rfl Try.ntmps98 rfl ?_
  refine kSeq ?_
  refine kRegion rfl ?_
  refine lE rfl ?_
  refine eBoxA rfl fun n2 => ?_
  refine lV (yAssign rfl) rfl rfl ?_
  refine lE rfl ?_
  refine eAlloc Z124 fun n5 => ?_
  refine lNil ?_
  refine kThen ?_
  refine kSeq ?_
  refine kRegion rfl ?_
  refine lV (yLoadA (vs := [_, _, _, _, _, _, _]) rfl A75 (cOwn 1 rfl rfl)) rfl rfl ?_
  refine lE rfl ?_
  refine eCallO rfl (.c rfl .n) C118 (fun w' hw => open_any y m w' (hm.eff hw) hM) fun x hx => ?_
  obtain ⟨nm, g⟩ := x
  dsimp only at hx ⊢
  refine lV (yAssign rfl) rfl rfl ?_
  refine lNil ?_
  refine kThen ?_
  refine kSeq ?_
  refine kSeq ?_
  refine kRegion rfl ?_
  refine lV (yMove rfl) rfl rfl ?_
  refine lV (yLen rfl S56) rfl rfl ?_
  refine lV (yMove rfl) rfl rfl ?_
  refine lNil ?_
  refine kThen ?_
  refine kBlock ?_
  refine kLoopX (ι := Nat) (fun i => i ≤ l.length ∧ ∀ j, j < i → 0 ≤ l.getD j 0 ∧ l.getD j 0 ≤ m.images - 1) (fun i => [(15, i64 (i : Nat))]) [(0, _), (1, _), (2, _), (4, _), (5, _), (11, _), (12, _), (6, _), (13, _), (14, _)] (fun i => []) (fun i => osL 179 g) [(n5, _), (n2, _), (nm, _)] (fun i => l.length - i) 0 (⟨Nat.zero_le _, fun j hj => absurd hj (by omega)⟩) rfl (.c rfl .n) (.c rfl (.c rfl (.c rfl (.c rfl (.c rfl (.c rfl (.c rfl (.c rfl (.c rfl (.c rfl .n)))))))))) (.c 0 rfl (.c 0 rfl (.c 0 rfl .r))) ?_
  rintro i ⟨hi, hok⟩
  refine kSeq ?_
  refine kRegion rfl ?_
  refine lV (yLss rfl rfl) rfl rfl ?_
  refine lNil ?_
  refine kThen ?_
  refine kSeq ?_
  refine split (t := 16) rfl (fun h16 => ?_) (fun h16 => ?_)
  · refine kIfT rfl ?_
    refine kSkip ?_
    refine kThen ?_
    refine kSeq ?_
    refine kBlock ?_
    refine kSeq ?_
    refine kRegion rfl ?_
    refine lV (yIndexS  rfl rfl S56 (hv.r) ((by omega))) rfl rfl ?_
    refine lV (yLoad1 rfl O3 (cSl0 (hv.r) ((by omega)) rfl)) rfl rfl ?_
    refine lV (yAssign rfl) rfl rfl ?_
    refine lNil ?_
    refine kThen ?_
    refine kRegion rfl ?_
    refine lV (yMove rfl) rfl rfl ?_
    refine lV (yMove rfl) rfl rfl ?_
    refine lV (yNilCheckP rfl) rfl rfl ?_
    refine lV (yFieldAddr rfl F151_0) rfl rfl ?_
    refine lV (yFieldAddr rfl F75_1) rfl rfl ?_
    refine lV (yLoad1 rfl O3 (cOwn 2 rfl rfl)) rfl rfl ?_
    refine lV (ySub rfl rfl (by omega)) rfl rfl ?_
    refine lV (yCall rfl (.c rfl (.c rfl (.c rfl .n))) C120 (fun w hw => within_any _ _ _ w)) rfl rfl ?_
    refine splitB (t := 26) rfl (fun h26 => ?_) (fun h26 => ?_)
    · refine lV (yCall rfl (.c rfl (.c rfl .n)) C119 (fun w hw => need_ok 2 w)) rfl rfl ?_
      refine lNil ?_
      refine kInN ?_
      refine kThen ?_
      refine kRegion rfl ?_
      refine lV (yAdd rfl rfl (by omega)) rfl rfl ?_
      refine lV (yMove rfl) rfl rfl ?_
      refine lNil ?_
      exact kRoundX (i + 1) (⟨by omega, fun j hj => by rcases Nat.lt_or_ge j i with h | h; (· exact hok j h); (obtain rfl : j = i := (by omega)); exact of_decide_eq_true h26⟩) (by omega) rfl (.c rfl .n) (.c rfl (.c rfl (.c rfl (.c rfl (.c rfl (.c rfl (.c rfl (.c rfl (.c rfl (.c rfl .n)))))))))) (.c 0 rfl (.c 0 rfl (.c 0 rfl .r)))
    · refine lE rfl ?_
      refine eCallP rfl (.c rfl (.c rfl .n)) C119 (fun w hw => need_pan 2 w) ?_
      refine kInP ?_
      refine kThenP ?_
      refine kThenP ?_
      refine kInP ?_
      refine kThenP ?_
      exact fPan (fun w' hw => .inr (.inl ⟨fun h => absurd (h _ (getD_mem (i := i) (by omega) 0)) (of_decide_eq_false h26), endPan rfl w' hw⟩))
  · refine kIfF rfl ?_
    refine kExit ?_
    refine kThenX ?_
    refine kThenX ?_
    refine kInX ?_
    refine kThen ?_
    refine kSeq ?_
    refine kRegion rfl ?_
    refine lV (yMove rfl) rfl rfl ?_
    refine lV (yMove rfl) rfl rfl ?_
    refine lV (yCall rfl (.c rfl .n) C122 (fun w hw => every_any nm y m g w (hw.blkAt 2 rfl) hM.n)) rfl rfl ?_
    refine lV (yCall rfl (.c rfl (.c rfl .n)) C121 (fun w hw => tight_any nm y m g (fullS m) w (by omega) (InMs.mk' hx hm hw (.d 0 (.d 0 (.d 0 .r))) (hw.blkAt 2 rfl)) hM)) rfl rfl ?_
    refine lV (yMove rfl) rfl rfl ?_
    refine lV (yExtract rfl rfl) rfl rfl ?_
    refine lV (yExtract rfl rfl) rfl rfl ?_
    refine lE rfl ?_
    refine eAlloc Z124 fun n9 => ?_
    refine lE rfl ?_
    refine eStoreL 0 rfl rfl rfl rfl K124 rfl (rfl) ?_
    refine lV (yAssign rfl) rfl rfl ?_
    refine knownB (t := 10) (c := (decide (diagOk (tightB m (fullS m))))) rfl (rfl) ?_
    refine lNil ?_
    rw [bWrAll _ (tightB m (fullS m)) rfl]
    refine kThen ?_
    refine kSeq ?_
    refine kRegion rfl ?_
    refine lV (yMove rfl) rfl rfl ?_
    refine split (t := 36) rfl (fun h36 => ?_) (fun h36 => ?_)
    · refine lV (yCall rfl (.c rfl (.c rfl .n)) C119 (fun w hw => need_ok 10 w)) rfl rfl ?_
      refine lNil ?_
      refine kThen ?_
      refine kSeq ?_
      refine kDrawE [(1, none)] [] [0, 1, 2] 1 hMix (by kernel_rfl) ?_
      refine .run rfl (yMove rfl) rfl rfl ?_
      refine .run rfl (yLoadA (vs := (bCells _)) rfl A124 (cOwn 0 rfl (bSubAll _))) rfl rfl ?_
      refine .run rfl (yAssign rfl) rfl rfl ?_
      refine .done ?_
      refine effStep 3 [] (by kernel_rfl) closedSt (hLeft [1] (by kernel_rfl) (.c (fun _ _ hs => hs.ef) .n)) ?_
      refine .c ?_ .n
      refine effOne rfl (gNone rfl (fStoreL 1 rfl rfl rfl rfl K124 rfl (rfl))) ?_
      refine effDone closedSt (hLeft [] (by kernel_rfl) .n) (by kernel_rfl) ?_
      rw [bWrAll _ (tightB m (fullS m)) rfl]
      refine kThen ?_
      refine kRet ?_
      refine fRet rfl (.t rfl (.cA (us := (bCells _)) rfl A124 (cOwn 1 rfl (bSubAll _)) .n)) ?_
      exact fun w' hw => .inl ⟨fun n hn => (by obtain ⟨j, hj, rfl⟩ := List.mem_iff_getElem.1 hn; have := hok j (by omega); rwa [← List.getElem_eq_getD (h := hj)] at this), h36, endX (nm, g) hx rfl rfl (.d 0 (.d 0 (.d 0 .r))) w' hw⟩
    · refine lE rfl ?_
      refine eCallP rfl (.c rfl (.c rfl .n)) C119 (fun w hw => need_pan 10 w) ?_
      refine kThenP ?_
      exact fPan (fun w' hw => .inr (.inr ⟨fun n hn => (by obtain ⟨j, hj, rfl⟩ := List.mem_iff_getElem.1 hn; have := hok j (by omega); rwa [← List.getElem_eq_getD (h := hj)] at this), h36, endPan rfl w' hw⟩))
end Go.Proofs.Ytlcdohhhhlhpmaa.Scr
namespace Go.Proofs.Ytlcdohhhhlhpmaa.Scr
open ZW

/-- How often an image is in the first settings. -/
def cntP (m : Meas) (i : Nat) (a : Int) : Int := (((m.sets.take i).filter fun x => x.1 == a).length : Nat)
theorem cntP_succ (m : Meas) {i : Nat} (h : i < m.sets.length) (a : Int) : cntP m (i + 1) a = if a = (m.sets.getD i (0, 0, false)).1 then cntP m i a + 1 else cntP m i a := by
  unfold cntP
  rw [List.take_add_one, List.getElem?_eq_getElem h, ← List.getElem_eq_getD (h := h)]
  simp only [Option.toList_some, List.filter_append, List.length_append]
  by_cases hc : a = m.sets[i].1
  · rw [if_pos hc]
    have : (m.sets[i].1 == a) = true := by simpa using hc.symm
    rw [show List.filter (fun x : Int × Int × Bool => x.1 == a) [m.sets[i]] = [m.sets[i]] from by simp only [List.filter, this]]; simp
  · rw [if_neg hc]
    have : (m.sets[i].1 == a) = false := by simpa using fun e => hc (Eq.symm e)
    rw [show List.filter (fun x : Int × Int × Bool => x.1 == a) [m.sets[i]] = [] from by simp only [List.filter, this]]; simp
theorem cntP_bd (m : Meas) (i : Nat) (a : Int) : 0 ≤ cntP m i a ∧ cntP m i a ≤ m.sets.length := by
  unfold cntP
  have h1 := List.length_filter_le (fun x : Int × Int × Bool => x.1 == a) (m.sets.take i)
  have h2 := List.length_take_le i m.sets
  have h3 : (m.sets.take i).length ≤ m.sets.length := by rw [List.length_take]; omega
  omega
/-- An image has a setting. -/
def seenP (m : Meas) (a : Int) : Prop := 0 < cntP m m.sets.length a
instance (m : Meas) (a : Int) : Decidable (seenP m a) := inferInstanceAs (Decidable (_ < _))
theorem seenP_iff (m : Meas) (a : Int) : seenP m a ↔ ∃ x ∈ m.sets, x.1 = a := by
  unfold seenP cntP
  rw [List.take_length]
  constructor
  · intro h
    obtain ⟨x, hx⟩ := List.exists_mem_of_length_pos (l := m.sets.filter fun x => x.1 == a) (by omega)
    rw [List.mem_filter] at hx
    exact ⟨x, hx.1, by simpa using hx.2⟩
  · rintro ⟨x, hx, rfl⟩
    have : x ∈ m.sets.filter fun z => z.1 == x.1 := List.mem_filter.2 ⟨hx, by simp⟩
    have := List.length_pos_of_mem this
    omega
/-- What comes of asking whether images were seen. -/
def SeenR (w : World) (m : Meas) (l : List Int) : Ending → World → Prop := fun e w' =>
  ((∀ a ∈ l, seenP m a) ∧ Ret w (.tuple #[]) e w') ∨ ((¬ ∀ a ∈ l, seenP m a) ∧ Pan w (.iface 146 (.agg [i64 12].toArray)) e w')

set_option maxRecDepth 100000 in
theorem seen_any (nm : Nat) (y : Loc) (m : Meas) (g : Own) (v : Option Addr) (c : Nat) (l : List Int) (k : Nat) (w : World) (hms : InMs w nm y m g) (hN : m.sets.length ≤ 12) (hk : k = l.length) (hv : SlE w v k 1 (intC l)) (hl : l.length ≤ 100) :
    Calls Try.prog 99 [.pointer (some ⟨nm, 0, none⟩), .slice v k c].toArray w (SeenR w m l) := by
  subst hk
  refine fEnter Try.func99 rfl Try.ntmps99 rfl ?_
  refine kSeq ?_
  refine kRegion rfl ?_
  refine lE rfl ?_
  refine eMakeMap (k := .i64) fun n9 => ?_
  refine lV (yAssign rfl) rfl rfl ?_
  refine lNil ?_
  refine kThen ?_
  refine kSeq ?_
  refine kSeq ?_
  refine kRegion rfl ?_
  refine lV (yMove rfl) rfl rfl ?_
  refine lV (yNilCheckP rfl) rfl rfl ?_
  refine lV (yFieldAddr rfl F151_0) rfl rfl ?_
  refine lV (yFieldAddr rfl F75_3) rfl rfl ?_
  refine lV (yLoad1 rfl O73 (cOldB (hms.b) rfl)) rfl rfl ?_
  refine lV (yLen rfl S73) rfl rfl ?_
  refine lV (yMove rfl) rfl rfl ?_
  refine lNil ?_
  refine kThen ?_
  refine kBlock ?_
  refine kLoopX (ι := Nat × List (Int × Value)) (fun x => x.1 ≤ m.sets.length ∧ ∀ a, mGet x.2 a (i64 0) = i64 (cntP m x.1 a)) (fun x => [(16, i64 (x.1 : Nat))]) [(0, _), (1, _), (9, _), (4, _), (10, _), (11, _), (12, _), (13, _), (14, _), (15, _)] (fun x => []) (fun x => [(n9, mapO .i64 x.2)]) [] (fun x => m.sets.length - x.1) (0, []) (⟨Nat.zero_le _, fun a => by simp [mGet, mFind, cntP]⟩) rfl (.c rfl .n) (.c rfl (.c rfl (.c rfl (.c rfl (.c rfl (.c rfl (.c rfl (.c rfl (.c rfl (.c rfl .n)))))))))) (.c 0 rfl .n) ?_
  rintro ⟨i, es⟩ ⟨hi, hes⟩
  dsimp only at hi hes ⊢
  refine kSeq ?_
  refine kRegion rfl ?_
  refine lV (yLss rfl rfl) rfl rfl ?_
  refine lNil ?_
  refine kThen ?_
  refine kSeq ?_
  refine split (t := 17) rfl (fun h17 => ?_) (fun h17 => ?_)
  · refine kIfT rfl ?_
    refine kSkip ?_
    refine kThen ?_
    refine kSeq ?_
    refine kBlock ?_
    refine kSeq ?_
    refine kRegion rfl ?_
    refine lV (yIndexS  rfl rfl S73 (hms.m.s.r) ((by omega))) rfl rfl ?_
    refine lV (yLoadA (vs := [_, _, _]) rfl A78 (cSl0 (hms.m.s.r) ((by omega)) rfl)) rfl rfl ?_
    refine lE rfl ?_
    refine eAlloc Z78 fun n6 => ?_
    refine lE rfl ?_
    refine eStoreL 0 rfl rfl rfl rfl K78 rfl (rfl) ?_
    refine lNil ?_
    refine kThen ?_
    refine kRegion rfl ?_
    refine lV (yMove rfl) rfl rfl ?_
    refine lV (yFieldAddr rfl F78_0) rfl rfl ?_
    refine lV (yLoad1 rfl O3 (cOwn 0 rfl rfl)) rfl rfl ?_
    refine lV (yLookup MP156 ZV3 rfl rfl (fun w hw => hw.blkAt 1 rfl)) rfl rfl ?_
    refine same (t := 23) (u := i64 (cntP m i (m.sets.getD i (0, 0, false)).1)) rfl (hes _) ?_
    refine lV (yAdd rfl rfl (by have := cntP_bd m i (m.sets.getD i (0, 0, false)).1; omega)) rfl rfl ?_
    refine lE rfl ?_
    refine eMapUpdate 1 MP156 rfl rfl rfl rfl ?_
    refine lNil ?_
    refine kInN ?_
    refine kThen ?_
    refine kRegion rfl ?_
    refine lV (yAdd rfl rfl (by omega)) rfl rfl ?_
    refine lV (yMove rfl) rfl rfl ?_
    refine lNil ?_
    exact kRoundX (i + 1, mPut es (m.sets.getD i (0, 0, false)).1 (i64 (cntP m i (m.sets.getD i (0, 0, false)).1 + 1))) (⟨by dsimp only; omega, fun a => by dsimp only; rw [mGet_put, cntP_succ m (by omega)]; split; (· rename_i h; rw [h]); exact hes a⟩) (by dsimp only; omega) rfl (.c rfl .n) (.c rfl (.c rfl (.c rfl (.c rfl (.c rfl (.c rfl (.c rfl (.c rfl (.c rfl (.c rfl .n)))))))))) (.c 1 rfl .n)
  · refine kIfF rfl ?_
    refine kExit ?_
    refine kThenX ?_
    refine kThenX ?_
    refine kInX ?_
    refine kThen ?_
    refine kSeq ?_
    refine kRegion rfl ?_
    refine lV (yMove rfl) rfl rfl ?_
    refine lV (yLen rfl S56) rfl rfl ?_
    refine lV (yMove rfl) rfl rfl ?_
    refine lNil ?_
    refine kThen ?_
    refine kBlock ?_
    refine kLoopX (ι := Nat) (fun j => j ≤ l.length ∧ ∀ q, q < j → seenP m (l.getD q 0)) (fun j => [(28, i64 (j : Nat))]) [(0, _), (1, _), (9, _), (4, _), (10, _), (11, _), (12, _), (13, _), (14, _), (15, _), (16, _), (17, _), (26, _), (27, _)] (fun j => []) (fun j => []) [(n9, _)] (fun j => l.length - j) 0 (⟨Nat.zero_le _, fun j hj => absurd hj (by omega)⟩) rfl (.c rfl .n) (.c rfl (.c rfl (.c rfl (.c rfl (.c rfl (.c rfl (.c rfl (.c rfl (.c rfl (.c rfl (.c rfl (.c rfl (.c rfl (.c rfl .n)))))))))))))) (.c 0 rfl .n) ?_
    rintro j ⟨hj, hok⟩
    refine kSeq ?_
    refine kRegion rfl ?_
    refine lV (yLss rfl rfl) rfl rfl ?_
    refine lNil ?_
    refine kThen ?_
    refine kSeq ?_
    refine split (t := 29) rfl (fun h29 => ?_) (fun h29 => ?_)
    · refine kIfT rfl ?_
      refine kSkip ?_
      refine kThen ?_
      refine kSeq ?_
      refine kBlock ?_
      refine kSeq ?_
      refine kRegion rfl ?_
      refine lV (yIndexS  rfl rfl S56 (hv.r) ((by omega))) rfl rfl ?_
      refine lV (yLoad1 rfl O3 (cSl0 (hv.r) ((by omega)) rfl)) rfl rfl ?_
      refine lV (yAssign rfl) rfl rfl ?_
      refine lNil ?_
      refine kThen ?_
      refine kRegion rfl ?_
      refine lV (yMove rfl) rfl rfl ?_
      refine lV (yMove rfl) rfl rfl ?_
      refine lV (yLookup MP156 ZV3 rfl rfl (fun w hw => hw.blkAt 0 rfl)) rfl rfl ?_
      refine same (t := 34) (u := i64 (cntP m i (l.getD j 0))) rfl (hes _) ?_
      refine lV (yGtr rfl rfl) rfl rfl ?_
      refine split (t := 35) rfl (fun h35 => ?_) (fun h35 => ?_)
      · refine lV (yCall rfl (.c rfl (.c rfl .n)) C119 (fun w hw => need_ok 12 w)) rfl rfl ?_
        refine lNil ?_
        refine kInN ?_
        refine kThen ?_
        refine kRegion rfl ?_
        refine lV (yAdd rfl rfl (by omega)) rfl rfl ?_
        refine lV (yMove rfl) rfl rfl ?_
        refine lNil ?_
        exact kRoundX (j + 1) (⟨by omega, fun q hq => by rcases Nat.lt_or_ge q j with h | h; (· exact hok q h); (obtain rfl : q = j := (by omega)); (obtain rfl : i = m.sets.length := (by omega)); exact h35⟩) (by omega) rfl (.c rfl .n) (.c rfl (.c rfl (.c rfl (.c rfl (.c rfl (.c rfl (.c rfl (.c rfl (.c rfl (.c rfl (.c rfl (.c rfl (.c rfl (.c rfl .n)))))))))))))) (.c 0 rfl .n)
      · refine lE rfl ?_
        refine eCallP rfl (.c rfl (.c rfl .n)) C119 (fun w hw => need_pan 12 w) ?_
        refine kInP ?_
        refine kThenP ?_
        refine kThenP ?_
        refine kInP ?_
        exact fPan (fun w' hw => .inr ⟨fun h => h35 (by obtain rfl : i = m.sets.length := (by omega); exact h _ (getD_mem (i := j) (by omega) 0)), endPan rfl w' hw⟩)
    · refine kIfF rfl ?_
      refine kExit ?_
      refine kThenX ?_
      refine kThenX ?_
      refine kInX ?_
      refine fEnd rfl .n ?_
      exact fun w' hw => .inl ⟨fun n hn => (by obtain ⟨q, hq, rfl⟩ := List.mem_iff_getElem.1 hn; have := hok q (by omega); rwa [← List.getElem_eq_getD (h := hq)] at this), endRet rfl w' hw⟩

/-! ### Travel -/
abbrev outC (r : (Int × Int) × Int) : Value := .tuple [.agg [i64 r.1.1, i64 r.1.2].toArray, i64 r.2].toArray
def travelE (m : Meas) (n : Int) : (Int × Int) × Int := if ¬ ScrewOk m then ((0, 0), 1) else if ¬ readOk m n then ((0, 0), 2) else (travelP m n, 0)

/-! ### Deferred closures that catch a misfit -/
structure Catch (f : FuncId) : Prop where
  ret : ∀ p w, CallsDIn (FW none) 0 Try.prog f #[p] .returning w (fun e u' w' => (∃ v, e = .returned v) ∧ u' = .returning ∧ Eff w [] [] w')
  pan : ∀ (n : Nat) (x e : Int) (w : World), w.heap[n]? = some (blk [i64 x] 29) → CallsDIn (FW none) 0 Try.prog f #[.pointer (some ⟨n, 0, none⟩)] (.panicking [{ v := .iface 146 (.agg [i64 e].toArray), recovered := false }]) w
    (fun en u' w' => (∃ v, en = .returned v) ∧ u' = .panicking [{ v := .iface 146 (.agg [i64 e].toArray), recovered := true }] ∧ Eff w [(n, blk [i64 e] 29)] [] w')
theorem catchOf {f : FuncId} {fn : Func} {id : Nat} {T1 T2 : TypeId} {p1 p2 : String} {af1 af2 : Array Edge} {tys : Array TypeId}
    (hf : Try.prog.funcs[f]? = some fn)
    (hb : fn.body = some (.region id #[⟨some 1, .call ⟨.builtin .recover, #[], #[]⟩, T1, p1, af1, none⟩, ⟨some 2, .call ⟨.value (.func 97), #[.tmp 1, .tmp 0], tys⟩, T2, p2, af2, none⟩] false))
    (hn : fn.ntmps = 3) (hr : fn.results = #[]) : Catch f where
  ret p w := catchD hf hb hn hr C97 (x := .nilIface) (fun c₀ cs h => recover_idle c₀ cs h) ((caught_nil p w).mono fun _ _ ⟨he, hE⟩ => ⟨⟨_, he⟩, hE⟩)
  pan n x e w h := catchD hf hb hn hr C97 (x := .iface 146 (.agg [i64 e].toArray)) (fun c₀ cs h => recover_some _ c₀ cs h) ((caught_mis e x n w h).mono fun _ _ ⟨he, hE⟩ => ⟨⟨_, he⟩, hE⟩)
theorem D96 : Catch 96 := catchOf Try.func96 rfl rfl rfl
section
variable {N : Nat} {S : Slots} {W : World} {M L : Heap} {fn : Func} {rs : List ResultVar} {vs : List Value} {R : Ending → World → Prop} {f : FuncId} {p : Value}
theorem fRetC (hC : Catch f) (hg : callT Try.prog f = true) (hr : fn.results = rs.toArray) (h : ResV Try.prog S (Eff W M L) rs vs) (k : ∀ w, Eff W M L w → R (.returned (packV vs)) w) :
    Tr (St N S [dfr f p] W M L) (bodyPostM (FW none) 0 Try.prog fn R .ret) := fRetD hg hr h (fun w _ => hC.ret p w) k
theorem fPanC {n : Nat} {x e : Int} (i : Nat) (hC : Catch f) (hg : callT Try.prog f = true) (hi : L[i]? = some (n, blk [i64 x] 29)) (hr : fn.results = rs.toArray) (h : ResV Try.prog S (Eff W M (upd L i (blk [i64 e] 29))) rs vs)
    (k : ∀ w, Eff W M (upd L i (blk [i64 e] 29)) w → R (.returned (packV vs)) w) :
    Tr (St N S [dfr f (.pointer (some ⟨n, 0, none⟩))] W M L) (bodyPostM (FW none) 0 Try.prog fn R (.panic [{ v := .iface 146 (.agg [i64 e].toArray), recovered := false }])) :=
  fPanD hg hr h (fun w hw => (hC.pan n x e w (hw.own _ (List.mem_append.2 (.inr (List.mem_of_getElem? hi))))).mono fun _ _ _ ⟨h1, h2, h3⟩ => ⟨h1, h2, by simpa using hw.wroteL hi h3⟩) k
end
end Go.Proofs.Ytlcdohhhhlhpmaa.Scr
namespace Go.Proofs.Ytlcdohhhhlhpmaa.Scr
open ZW

theorem tight_64 {m : Meas} (hM : MeasOk m) (s i k : Nat) (hi : i < 8) (hk : k < 8) : In64 (-tightB m s i k) := by
  have h := Bd.closeP (A := 300000) (by omega) (tells_bd hM s _ (Nat.le_refl _)) 8 (Nat.le_refl _) i k hi hk
  have h6 : (6 : Int) ^ 8 * 300000 = 503884800000 := by decide
  rw [h6] at h
  unfold never at h
  show In64 (-closeP (tellsP (putP freeP 0 1 m.sum) (toldP m) s m.sets.length) 8 i k)
  unfold In64
  omega

theorem truth_2 (y : Loc) (m : Meas) (v : Option Addr) (c : Nat) (l : List Int) (k : Nat) (w : World) (hm : InM w y m) (hM : MeasOk m) (hk : k = l.length) (hv : SlE w v k 1 (intC l)) (hl : l.length ≤ 100) (h : ¬ imgsOk m l) : Calls Try.prog 98 [.agg (measC y m).toArray, .slice v k c].toArray w (Pan w (.iface 146 (.agg [i64 2].toArray))) :=
  (truth_any y m v c l k w hm hM hk hv hl).mono fun _ _ hr => by
    rcases hr with ⟨h1, _⟩ | ⟨_, h2⟩ | ⟨h1, _⟩
    · exact absurd h1 h
    · exact h2
    · exact absurd h1 h
theorem truth_10 (y : Loc) (m : Meas) (v : Option Addr) (c : Nat) (l : List Int) (k : Nat) (w : World) (hm : InM w y m) (hM : MeasOk m) (hk : k = l.length) (hv : SlE w v k 1 (intC l)) (hl : l.length ≤ 100) (h : imgsOk m l) (hd : ¬ diagOk (tightB m (fullS m))) : Calls Try.prog 98 [.agg (measC y m).toArray, .slice v k c].toArray w (Pan w (.iface 146 (.agg [i64 10].toArray))) :=
  (truth_any y m v c l k w hm hM hk hv hl).mono fun _ _ hr => by
    rcases hr with ⟨_, h1, _⟩ | ⟨h1, _⟩ | ⟨_, _, h2⟩
    · exact absurd h1 hd
    · exact absurd h h1
    · exact h2
theorem truth_0 (y : Loc) (m : Meas) (v : Option Addr) (c : Nat) (l : List Int) (k : Nat) (w : World) (hm : InM w y m) (hM : MeasOk m) (hk : k = l.length) (hv : SlE w v k 1 (intC l)) (hl : l.length ≤ 100) (h : imgsOk m l) (hd : diagOk (tightB m (fullS m))) : Calls Try.prog 98 [.agg (measC y m).toArray, .slice v k c].toArray w
    (RetX w (fun x : Nat × Own => OS 1 x.2 ((toldP m).map rowT)) (fun x => .tuple [.pointer (some ⟨x.1, 0, none⟩), .agg (bCells (tightB m (fullS m))).toArray].toArray) (fun _ => []) (openL y m)) :=
  (truth_any y m v c l k w hm hM hk hv hl).mono fun _ _ hr => by
    rcases hr with ⟨_, _, h2⟩ | ⟨h1, _⟩ | ⟨_, h1, _⟩
    · exact h2
    · exact absurd h h1
    · exact absurd hd h1
theorem seen_0 (nm : Nat) (y : Loc) (m : Meas) (g : Own) (v : Option Addr) (c : Nat) (l : List Int) (k : Nat) (w : World) (hms : InMs w nm y m g) (hN : m.sets.length ≤ 12) (hk : k = l.length) (hv : SlE w v k 1 (intC l)) (hl : l.length ≤ 100) (h : ∀ a ∈ l, seenP m a) : Calls Try.prog 99 [.pointer (some ⟨nm, 0, none⟩), .slice v k c].toArray w (Ret w (.tuple #[])) :=
  (seen_any nm y m g v c l k w hms hN hk hv hl).mono fun _ _ hr => by
    rcases hr with ⟨_, h2⟩ | ⟨h1, _⟩
    · exact h2
    · exact absurd h h1
theorem seen_12 (nm : Nat) (y : Loc) (m : Meas) (g : Own) (v : Option Addr) (c : Nat) (l : List Int) (k : Nat) (w : World) (hms : InMs w nm y m g) (hN : m.sets.length ≤ 12) (hk : k = l.length) (hv : SlE w v k 1 (intC l)) (hl : l.length ≤ 100) (h : ¬ ∀ a ∈ l, seenP m a) : Calls Try.prog 99 [.pointer (some ⟨nm, 0, none⟩), .slice v k c].toArray w (Pan w (.iface 146 (.agg [i64 12].toArray))) :=
  (seen_any nm y m g v c l k w hms hN hk hv hl).mono fun _ _ hr => by
    rcases hr with ⟨h1, _⟩ | ⟨_, h2⟩
    · exact absurd h1 h
    · exact h2
abbrev spanB (b : BMat) (f t : Nat) : Int × Int := (-b t f, b f t)

set_option maxRecDepth 100000 in
theorem place_1 (y : Loc) (m : Meas) (a : Int) (w : World) (hm : InM w y m) (hM : ¬ MeasOk m) : Calls Try.prog 50 [.agg (measC y m).toArray, i64 a].toArray w (Ret w (outC ((0, 0), 1))) := by
  refine fEnter Try.func50 rfl Try.ntmps50 rfl ?_
  refine kSeq ?_
  refine kRegion rfl ?_
  refine lE rfl ?_
  refine eBoxA rfl fun n2 => ?_
  refine lE rfl ?_
  refine eAlloc Z23 fun n4 => ?_
  refine lE rfl ?_
  refine eAlloc Z29 fun n5 => ?_
  refine lNil ?_
  refine kThen ?_
  refine kSeq ?_
  refine kRegion rfl ?_
  refine lV (yMakeFunc .n (.c rfl .n)) rfl rfl ?_
  refine lE rfl ?_
  refine eDefer rfl .n ?_
  refine lNil ?_
  refine kThen ?_
  refine kSeq ?_
  refine kRegion rfl ?_
  refine lV (yLoadA (vs := [_, _, _, _, _, _, _]) rfl A75 (cOwn 2 rfl rfl)) rfl rfl ?_
  refine lV (yMove rfl) rfl rfl ?_
  refine lE rfl ?_
  refine eBuildSlice (.c rfl .n) (fun w => BS56_1_0 w) fun n12 => ?_
  refine lE rfl ?_
  refine eCallP rfl (.c rfl (.c rfl .n)) C98 (fun w hw => truth_bad y m _ _ _ w (hm.eff hw) hM) ?_
  refine kThenP ?_
  refine fPanC 1 D96 C96 rfl rfl (.cA (us := [_, _]) rfl A23 (cOwn 2 rfl rfl) (.c1 rfl O29 (cOwn 1 rfl rfl) .n)) (endRet ?_)
  rfl

set_option maxRecDepth 100000 in
theorem place_2 (y : Loc) (m : Meas) (a : Int) (w : World) (hm : InM w y m) (hM : MeasOk m) (hI : ¬ (0 ≤ a ∧ a ≤ m.images - 1)) : Calls Try.prog 50 [.agg (measC y m).toArray, i64 a].toArray w (Ret w (outC ((0, 0), 2))) := by
  refine fEnter Try.func50 rfl Try.ntmps50 rfl ?_
  refine kSeq ?_
  refine kRegion rfl ?_
  refine lE rfl ?_
  refine eBoxA rfl fun n2 => ?_
  refine lE rfl ?_
  refine eAlloc Z23 fun n4 => ?_
  refine lE rfl ?_
  refine eAlloc Z29 fun n5 => ?_
  refine lNil ?_
  refine kThen ?_
  refine kSeq ?_
  refine kRegion rfl ?_
  refine lV (yMakeFunc .n (.c rfl .n)) rfl rfl ?_
  refine lE rfl ?_
  refine eDefer rfl .n ?_
  refine lNil ?_
  refine kThen ?_
  refine kSeq ?_
  refine kRegion rfl ?_
  refine lV (yLoadA (vs := [_, _, _, _, _, _, _]) rfl A75 (cOwn 2 rfl rfl)) rfl rfl ?_
  refine lV (yMove rfl) rfl rfl ?_
  refine lE rfl ?_
  refine eBuildSlice (.c rfl .n) (fun w => BS56_1_0 w) fun n12 => ?_
  refine lE rfl ?_
  refine eCallP rfl (.c rfl (.c rfl .n)) C98 (fun w hw => truth_2 y m _ _ [a] 1 w (hm.eff hw) hM rfl (sleRows (f := fun x => [i64 x]) (fun _ => rfl) 0 [a] rfl (hw.blkAt 0 rfl)) (by simp) (fun h => hI (h a (by simp)))) ?_
  refine kThenP ?_
  refine fPanC 1 D96 C96 rfl rfl (.cA (us := [_, _]) rfl A23 (cOwn 2 rfl rfl) (.c1 rfl O29 (cOwn 1 rfl rfl) .n)) (endRet ?_)
  rfl

set_option maxRecDepth 100000 in
theorem place_10 (y : Loc) (m : Meas) (a : Int) (w : World) (hm : InM w y m) (hM : MeasOk m) (hI : 0 ≤ a ∧ a ≤ m.images - 1) (hd : ¬ diagOk (tightB m (fullS m))) : Calls Try.prog 50 [.agg (measC y m).toArray, i64 a].toArray w (Ret w (outC ((0, 0), 10))) := by
  refine fEnter Try.func50 rfl Try.ntmps50 rfl ?_
  refine kSeq ?_
  refine kRegion rfl ?_
  refine lE rfl ?_
  refine eBoxA rfl fun n2 => ?_
  refine lE rfl ?_
  refine eAlloc Z23 fun n4 => ?_
  refine lE rfl ?_
  refine eAlloc Z29 fun n5 => ?_
  refine lNil ?_
  refine kThen ?_
  refine kSeq ?_
  refine kRegion rfl ?_
  refine lV (yMakeFunc .n (.c rfl .n)) rfl rfl ?_
  refine lE rfl ?_
  refine eDefer rfl .n ?_
  refine lNil ?_
  refine kThen ?_
  refine kSeq ?_
  refine kRegion rfl ?_
  refine lV (yLoadA (vs := [_, _, _, _, _, _, _]) rfl A75 (cOwn 2 rfl rfl)) rfl rfl ?_
  refine lV (yMove rfl) rfl rfl ?_
  refine lE rfl ?_
  refine eBuildSlice (.c rfl .n) (fun w => BS56_1_0 w) fun n12 => ?_
  refine lE rfl ?_
  refine eCallP rfl (.c rfl (.c rfl .n)) C98 (fun w hw => truth_10 y m _ _ [a] 1 w (hm.eff hw) hM rfl (sleRows (f := fun x => [i64 x]) (fun _ => rfl) 0 [a] rfl (hw.blkAt 0 rfl)) (by simp) (fun n hn => by simp only [List.mem_singleton] at hn; subst hn; exact hI) hd) ?_
  refine kThenP ?_
  refine fPanC 1 D96 C96 rfl rfl (.cA (us := [_, _]) rfl A23 (cOwn 2 rfl rfl) (.c1 rfl O29 (cOwn 1 rfl rfl) .n)) (endRet ?_)
  rfl

set_option maxRecDepth 100000 in
theorem place_12 (y : Loc) (m : Meas) (a : Int) (w : World) (hm : InM w y m) (hM : MeasOk m) (hI : 0 ≤ a ∧ a ≤ m.images - 1) (hd : diagOk (tightB m (fullS m))) (hs : ¬ seenP m a) : Calls Try.prog 50 [.agg (measC y m).toArray, i64 a].toArray w (Ret w (outC ((0, 0), 12))) := by
  refine fEnter Try.func50 rfl Try.ntmps50 rfl ?_
  refine kSeq ?_
  refine kRegion rfl ?_
  refine lE rfl ?_
  refine eBoxA rfl fun n2 => ?_
  refine lE rfl ?_
  refine eAlloc Z23 fun n4 => ?_
  refine lE rfl ?_
  refine eAlloc Z29 fun n5 => ?_
  refine lNil ?_
  refine kThen ?_
  refine kSeq ?_
  refine kRegion rfl ?_
  refine lV (yMakeFunc .n (.c rfl .n)) rfl rfl ?_
  refine lE rfl ?_
  refine eDefer rfl .n ?_
  refine lNil ?_
  refine kThen ?_
  refine kSeq ?_
  refine kRegion rfl ?_
  refine lV (yLoadA (vs := [_, _, _, _, _, _, _]) rfl A75 (cOwn 2 rfl rfl)) rfl rfl ?_
  refine lV (yMove rfl) rfl rfl ?_
  refine lE rfl ?_
  refine eBuildSlice (.c rfl .n) (fun w => BS56_1_0 w) fun n12 => ?_
  refine lE rfl ?_
  refine eCallO rfl (.c rfl (.c rfl .n)) C98 (fun w hw => truth_0 y m _ _ [a] 1 w (hm.eff hw) hM rfl (sleRows (f := fun x => [i64 x]) (fun _ => rfl) 0 [a] rfl (hw.blkAt 0 rfl)) (by simp) (fun n hn => by simp only [List.mem_singleton] at hn; subst hn; exact hI) hd) fun x hx => ?_
  obtain ⟨nm, g⟩ := x
  dsimp only at hx ⊢
  refine lV (yMove rfl) rfl rfl ?_
  refine lV (yExtract rfl rfl) rfl rfl ?_
  refine lV (yExtract rfl rfl) rfl rfl ?_
  refine lE rfl ?_
  refine eAlloc Z124 fun n7 => ?_
  refine lV (yAssign rfl) rfl rfl ?_
  refine lE rfl ?_
  refine eStoreL 0 rfl rfl rfl rfl K124 rfl (rfl) ?_
  refine lNil ?_
  rw [bWrAll _ (tightB m (fullS m)) rfl]
  refine kThen ?_
  refine kSeq ?_
  refine kRegion rfl ?_
  refine lV (yMove rfl) rfl rfl ?_
  refine lV (yMove rfl) rfl rfl ?_
  refine lE rfl ?_
  refine eBuildSlice (.c rfl .n) (fun w => BS56_1_0 w) fun n18 => ?_
  refine lE rfl ?_
  refine eCallP rfl (.c rfl (.c rfl .n)) C99 (fun w hw => seen_12 nm y m g _ _ [a] 1 w (InMs.mk' hx hm hw (.d 0 (.d 0 (.d 0 (.d 0 (.d 0 (.d 0 (.d 0 .r))))))) (hw.blkAt 6 rfl)) hM.n rfl (sleRows (f := fun x => [i64 x]) (fun _ => rfl) 0 [a] rfl (hw.blkAt 0 rfl)) (by simp) (fun h => hs (h a (by simp)))) ?_
  refine kThenP ?_
  refine fPanC 3 D96 C96 rfl rfl (.cA (us := [_, _]) rfl A23 (cOwn 4 rfl rfl) (.c1 rfl O29 (cOwn 3 rfl rfl) .n)) (endRet ?_)
  rfl

set_option maxRecDepth 100000 in
theorem place_0 (y : Loc) (m : Meas) (a : Int) (w : World) (hm : InM w y m) (hM : MeasOk m) (hI : 0 ≤ a ∧ a ≤ m.images - 1) (hd : diagOk (tightB m (fullS m))) (hs : seenP m a) : Calls Try.prog 50 [.agg (measC y m).toArray, i64 a].toArray w (Ret w (outC (spanB (tightB m (fullS m)) 0 (2 + a.toNat), 0))) := by
  refine fEnter Try.func50 rfl Try.ntmps50 rfl ?_
  refine kSeq ?_
  refine kRegion rfl ?_
  refine lE rfl ?_
  refine eBoxA rfl fun n2 => ?_
  refine lE rfl ?_
  refine eAlloc Z23 fun n4 => ?_
  refine lE rfl ?_
  refine eAlloc Z29 fun n5 => ?_
  refine lNil ?_
  refine kThen ?_
  refine kSeq ?_
  refine kRegion rfl ?_
  refine lV (yMakeFunc .n (.c rfl .n)) rfl rfl ?_
  refine lE rfl ?_
  refine eDefer rfl .n ?_
  refine lNil ?_
  refine kThen ?_
  refine kSeq ?_
  refine kRegion rfl ?_
  refine lV (yLoadA (vs := [_, _, _, _, _, _, _]) rfl A75 (cOwn 2 rfl rfl)) rfl rfl ?_
  refine lV (yMove rfl) rfl rfl ?_
  refine lE rfl ?_
  refine eBuildSlice (.c rfl .n) (fun w => BS56_1_0 w) fun n12 => ?_
  refine lE rfl ?_
  refine eCallO rfl (.c rfl (.c rfl .n)) C98 (fun w hw => truth_0 y m _ _ [a] 1 w (hm.eff hw) hM rfl (sleRows (f := fun x => [i64 x]) (fun _ => rfl) 0 [a] rfl (hw.blkAt 0 rfl)) (by simp) (fun n hn => by simp only [List.mem_singleton] at hn; subst hn; exact hI) hd) fun x hx => ?_
  obtain ⟨nm, g⟩ := x
  dsimp only at hx ⊢
  refine lV (yMove rfl) rfl rfl ?_
  refine lV (yExtract rfl rfl) rfl rfl ?_
  refine lV (yExtract rfl rfl) rfl rfl ?_
  refine lE rfl ?_
  refine eAlloc Z124 fun n7 => ?_
  refine lV (yAssign rfl) rfl rfl ?_
  refine lE rfl ?_
  refine eStoreL 0 rfl rfl rfl rfl K124 rfl (rfl) ?_
  refine lNil ?_
  rw [bWrAll _ (tightB m (fullS m)) rfl]
  refine kThen ?_
  refine kSeq ?_
  refine kRegion rfl ?_
  refine lV (yMove rfl) rfl rfl ?_
  refine lV (yMove rfl) rfl rfl ?_
  refine lE rfl ?_
  refine eBuildSlice (.c rfl .n) (fun w => BS56_1_0 w) fun n18 => ?_
  refine lV (yCall rfl (.c rfl (.c rfl .n)) C99 (fun w hw => seen_0 nm y m g _ _ [a] 1 w (InMs.mk' hx hm hw (.d 0 (.d 0 (.d 0 (.d 0 (.d 0 (.d 0 (.d 0 .r))))))) (hw.blkAt 6 rfl)) hM.n rfl (sleRows (f := fun x => [i64 x]) (fun _ => rfl) 0 [a] rfl (hw.blkAt 0 rfl)) (by simp) (fun n hn => by simp only [List.mem_singleton] at hn; subst hn; exact hs))) rfl rfl ?_
  refine lNil ?_
  refine kThen ?_
  refine kSeq ?_
  refine kRegion rfl ?_
  refine lV (yMove rfl) rfl rfl ?_
  refine lV (yAdd rfl rfl (by have := hM.i; omega)) rfl rfl ?_
  refine same (t := 21) (u := i64 ((2 + a.toNat : Nat) : Int)) rfl (by rw [Int.natCast_add, Int.toNat_of_nonneg hI.1]; rfl) ?_
  refine lV (yCall rfl (.c rfl (.c rfl (.c rfl .n))) C100 (fun w hw => between_any _ n7 0 (2 + a.toNat) w (hw.blkAt 1 rfl) (by omega) (by have := hM.i; omega) (tight_64 hM _ _ _ (by have := hM.i; omega) (by omega)))) rfl rfl ?_
  refine lE rfl ?_
  refine eStoreL 4 rfl rfl rfl rfl K23 rfl (rfl) ?_
  refine lE rfl ?_
  refine eStoreL 3 rfl rfl rfl rfl K29 rfl (rfl) ?_
  refine lNil ?_
  refine kThen ?_
  refine kRet ?_
  refine fRetC D96 C96 rfl (.cA (us := [_, _]) rfl A23 (cOwn 4 rfl rfl) (.c1 rfl O29 (cOwn 3 rfl rfl) .n)) (endRet ?_)
  rfl

end Go.Proofs.Ytlcdohhhhlhpmaa.Scr
namespace Go.Proofs.Ytlcdohhhhlhpmaa.Scr
open ZW

/-! ### Bounds are the same -/
/-! ### Once -/
def setAt (m : Meas) (i : Nat) : Int × Int × Bool := m.sets.getD i (0, 0, false)
theorem img_lt {m : Meas} (hM : MeasOk m) {i : Nat} (hi : i < m.sets.length) : 0 ≤ (setAt m i).1 ∧ (setAt m i).1.toNat < 6 := by
  have h := (hM.a _ (getD_mem hi (0, 0, false))).1
  have := hM.i
  unfold setAt; omega
/-! ### Idle -/
end Go.Proofs.Ytlcdohhhhlhpmaa.Scr
namespace Go.Proofs.Ytlcdohhhhlhpmaa.Scr
open ZW

/-- The first set, in that order, of which something is so. -/
def bestS (stop : Nat → Bool) : Nat → Option Nat
  | 0 => none
  | n + 1 => match bestS stop n with
    | none => if stop n = true then some n else none
    | some b => if stop n = true ∧ popc n < popc b then some n else some b
/-! ### Clash -/
/-! ### Drop -/
end Go.Proofs.Ytlcdohhhhlhpmaa.Scr
