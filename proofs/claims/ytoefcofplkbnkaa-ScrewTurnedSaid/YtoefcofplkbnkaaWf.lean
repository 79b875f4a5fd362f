/-
  Walks: what some settings tell; the truth.
-/
import Derived.Test.YtoefcofplkbnkaaWe
namespace Go.Proofs.Ytoefcofplkbnkaa
open ZW

theorem travel_bd {m : Meas} (hM : MeasOk m) {n : Int} (hn : readOk m n) : -200 ≤ (travelP m n).1 ∧ (travelP m n).1 ≤ (travelP m n).2 ∧ (travelP m n).2 ≤ 41000 := by
  have h1 := hM.s.e _ (getD_mem (readOk_lt hn).1 (0, 0))
  have h2 := hM.s.y
  have h3 := hM.s.n
  unfold readOk at hn
  unfold spanOk at h1 h2
  simp only [travelP]
  omega
theorem told_bd {m : Meas} (hM : MeasOk m) {i : Nat} (hi : i < m.sets.length) : ((toldP m).getD i told0).1 < 6 ∧ -200 ≤ ((toldP m).getD i told0).2.1.1 ∧ ((toldP m).getD i told0).2.1.1 ≤ ((toldP m).getD i told0).2.1.2 ∧ ((toldP m).getD i told0).2.1.2 ≤ 41000 := by
  rw [told_get m hi]
  have h := hM.a _ (getD_mem hi (0, 0, false))
  have h1 := hM.i
  have h2 := travel_bd hM h.2
  refine ⟨?_, h2⟩
  omega
theorem Bd.put {A : Int} {b : BMat} (h : Bd A b) {f t : Nat} {x : Int × Int} (hf : f < 8) (ht : t < 8) (h1 : -A ≤ x.2) (h2 : x.1 ≤ A) : Bd A (putP b f t x) := by
  intro i k hi hk
  have h3 := h i k hi hk
  have h4 := h f t hf ht
  have h5 := h t f ht hf
  unfold putP bUpd
  split
  · omega
  · split <;> omega
theorem Bd.free : Bd 300000 freeP := by
  intro i k _ _
  unfold freeP never
  split <;> omega
theorem tellsP_succ (b : BMat) (l : List Told) (s n : Nat) : tellsP b l s (n + 1) = if s.testBit n then tellP (tellsP b l s n) (l.getD n told0) else tellsP b l s n := range_foldl_succ _ _ _
theorem tells_bd {m : Meas} (hM : MeasOk m) (s : Nat) : ∀ n, n ≤ m.sets.length → Bd 300000 (tellsP (putP freeP 0 1 m.sum) (toldP m) s n)
  | 0, _ => by
    have := hM.u
    unfold spanOk at this
    exact Bd.free.put (by omega) (by omega) (by omega) (by omega)
  | n + 1, hn => by
    have ih := tells_bd hM s n (by omega)
    have ht := told_bd hM (i := n) (by omega)
    rw [tellsP_succ]
    split
    · unfold tellP
      split
      · exact ih.put (by omega) (by omega) (by omega) (by omega)
      · exact ih.put (by omega) (by omega) (by omega) (by omega)
    · exact ih
theorem bit_iff (s i : Nat) : (((s / 2 ^ i &&& 1 : Nat) : Int) = 1) ↔ s.testBit i = true := by
  rw [Nat.testBit_eq_decide_div_mod_eq, decide_eq_true_eq, Nat.and_one_is_mod]
  omega

theorem tell_eq {c : BMat} {t : Told} {r : Bool} (h : t.2.2 = r) : tellP c t = tellP c (t.1, t.2.1, r) := by subst h; rfl

theorem tell_eqF {c : BMat} {t : Told} (h : ¬ t.2.2 = true) : tellP c t = tellP c (t.1, t.2.1, false) := tell_eq (by simpa using h)

set_option maxRecDepth 100000 in
theorem tight_any (nm : Nat) (y : Loc) (m : Meas) (g : Own) (s : Nat) (w : World) (hs : s < 2 ^ 63) (hms : InMs w nm y m g) (hM : MeasOk m) :
    Calls Try.prog 68 [.pointer (some ⟨nm, 0, none⟩), .int .u64 (s : Nat)].toArray w (Ret w (.tuple [.agg (bCells (tightB m s)).toArray, .bool (decide (diagOk (tightB m s)))].toArray)) := by
  have hN := hM.n
  refine fEnter Try.func68 rfl Try.ntmps68 rfl ?_
  refine kSeq ?_
  refine kRegion rfl ?_
  refine lE rfl ?_
  refine eAlloc Z77 fun n4 => ?_
  refine lV (yAssign rfl) rfl rfl ?_
  refine lNil ?_
  refine kThen ?_
  refine kSeq ?_
  refine kRegion rfl ?_
  refine lV (yCall rfl .n C87 (fun w hw => free_any w)) rfl rfl ?_
  refine lE rfl ?_
  refine eAlloc Z77 fun n6 => ?_
  refine lE rfl ?_
  refine eStoreL 0 rfl rfl rfl rfl K77 rfl (rfl) ?_
  refine lNil ?_
  rw [bWrAll _ freeP rfl]
  refine kThen ?_
  refine kSeq ?_
  refine kDrawE [(5, none), (11, none)] [] [0, 1, 2, 3, 4, 5, 6, 7, 8, 9, 10, 11, 12] 1 hMix (by kernel_rfl) ?_
  refine .run rfl (yMove rfl) rfl rfl ?_
  refine .run rfl (yNilCheckP rfl) rfl rfl ?_
  refine .run rfl (yFieldAddr rfl F98_0) rfl rfl ?_
  refine .run rfl (yFieldAddr rfl F29_2) rfl rfl ?_
  refine .run rfl (yFieldAddr rfl F24_0) rfl rfl ?_
  refine .run rfl (yLoad1 rfl O3 (cOldB (hms.b) rfl)) rfl rfl ?_
  refine .run rfl (yMove rfl) rfl rfl ?_
  refine .run rfl (yNilCheckP rfl) rfl rfl ?_
  refine .run rfl (yFieldAddr rfl F98_0) rfl rfl ?_
  refine .run rfl (yFieldAddr rfl F29_2) rfl rfl ?_
  refine .run rfl (yFieldAddr rfl F24_1) rfl rfl ?_
  refine .run rfl (yLoad1 rfl O3 (cOldB (hms.b) rfl)) rfl rfl ?_
  refine .run rfl (yBuild (.c rfl (.c rfl .n)) (fun w => B69_0_1 w)) rfl rfl ?_
  refine .done ?_
  refine effStep 13 [] (by kernel_rfl) closedSt (hLeft [5, 11] (by kernel_rfl) (.c (fun _ _ hs => hs.ef) (.c (fun _ _ hs => hs.ef) .n))) ?_
  refine .c ?_ .n
  refine effOne rfl (gNone rfl (eCallW 0 rfl rfl (.c rfl (.c rfl (.c rfl (.c rfl .n)))) C88 (fun w hw hb => put_any freeP n6 0 1 m.sum.1 m.sum.2 w hb (by omega) (by omega) (by have := hM.u; unfold spanOk at this; omega)) trSelf)) ?_
  refine effDone closedSt (hLeft [] (by kernel_rfl) .n) (by kernel_rfl) ?_
  refine kThen ?_
  refine kSeq ?_
  refine kSeq ?_
  refine kRegion rfl ?_
  refine lV (yMove rfl) rfl rfl ?_
  refine lV (yNilCheckP rfl) rfl rfl ?_
  refine lV (yFieldAddr rfl F98_1) rfl rfl ?_
  refine lV (yLoad1 rfl O96 (cOldB (hms.b) rfl)) rfl rfl ?_
  refine lV (yLen rfl S96) rfl rfl ?_
  refine lV (yMove rfl) rfl rfl ?_
  refine lNil ?_
  refine kThen ?_
  refine kBlock ?_
  refine kLoopX (ι := Nat × BMat) (fun x => x.1 ≤ m.sets.length ∧ x.2 = tellsP (putP freeP 0 1 m.sum) (toldP m) s x.1) (fun x => [(30, i64 (x.1 : Nat))]) [(0, _), (1, _), (4, _), (5, _), (10, _), (6, _), (11, _), (12, _), (13, _), (14, _), (15, _), (16, _), (17, _), (18, _), (19, _), (20, _), (21, _), (22, _), (23, _), (24, _), (25, _), (26, _), (27, _), (28, _), (29, _)] (fun x => []) (fun x => [(n6, blk (bCells x.2) 77)]) [(n4, _)] (fun x => m.sets.length - x.1) (0, putP freeP 0 1 m.sum) (⟨Nat.zero_le _, rfl⟩) rfl (.c rfl .n) (.c rfl (.c rfl (.c rfl (.c rfl (.c rfl (.c rfl (.c rfl (.c rfl (.c rfl (.c rfl (.c rfl (.c rfl (.c rfl (.c rfl (.c rfl (.c rfl (.c rfl (.c rfl (.c rfl (.c rfl (.c rfl (.c rfl (.c rfl (.c rfl (.c rfl .n))))))))))))))))))))))))) (.c 1 rfl (.c 0 rfl .n)) ?_
  rintro ⟨i, c⟩ ⟨hi, hc⟩
  dsimp only at hi hc ⊢
  refine kSeq ?_
  refine kRegion rfl ?_
  refine lV (yLss rfl rfl) rfl rfl ?_
  refine lNil ?_
  refine kThen ?_
  refine kSeq ?_
  refine split (t := 31) rfl (fun h31 => ?_) (fun h31 => ?_)
  · refine kIfT rfl ?_
    refine kSkip ?_
    refine kThen ?_
    refine kSeq ?_
    refine kBlock ?_
    refine kSeq ?_
    refine kRegion rfl ?_
    refine lV (yMove rfl) rfl rfl ?_
    refine lV (yIndexS  rfl rfl S96 (hms.t.r) ((by omega))) rfl rfl ?_
    refine lV (yLoad1 rfl O117 (cSl0 (hms.t.r) ((by omega)) rfl)) rfl rfl ?_
    refine lV (yAssign rfl) rfl rfl ?_
    refine lV (yAssign rfl) rfl rfl ?_
    refine lNil ?_
    refine kThen ?_
    refine kSeq ?_
    refine kRegion rfl ?_
    refine lV (yMove rfl) rfl rfl ?_
    refine lV (yMove rfl) rfl rfl ?_
    refine lV (yShr rfl rfl rfl (by omega)) rfl rfl ?_
    refine lV (yAnd (b := 1) rfl rfl rfl (by have := Nat.div_le_self s (2 ^ i); omega) (by have := Nat.div_le_self s (2 ^ i); omega)) rfl rfl ?_
    refine lV (yEql rfl rfl) rfl rfl ?_
    refine lNil ?_
    refine kThen ?_
    refine split (t := 39) rfl (fun h39 => ?_) (fun h39 => ?_)
    · refine kIfT rfl ?_
      by_cases hrev : ((toldP m).getD i told0).2.2 = true
      · refine kRegion rfl ?_
        refine lV (yMove rfl) rfl rfl ?_
        refine same (t := 40) (u := .iface 112 (.agg [i64 (((toldP m).getD i told0).1 : Nat), i64 ((toldP m).getD i told0).2.1.1, i64 ((toldP m).getD i told0).2.1.2].toArray)) rfl (if_pos hrev) ?_
        refine lE rfl ?_
        refine eInvokeW 1 rfl rfl (.c rfl .n) MT112 C116 (fun w hw hb => turned_any c n6 _ _ w hb (told_bd hM (by omega)).1 (by have := told_bd hM (i := i) (by omega); omega)) ?_
        refine lNil ?_
        refine kInN ?_
        refine kThen ?_
        refine kRegion rfl ?_
        refine lV (yAdd rfl rfl (by omega)) rfl rfl ?_
        refine lV (yMove rfl) rfl rfl ?_
        refine lNil ?_
        exact kRoundX (i + 1, tellP c (((toldP m).getD i told0).1, ((toldP m).getD i told0).2.1, true)) (⟨by dsimp only; omega, by dsimp only; rw [tellsP_succ, ← hc]; first | (rw [if_pos ((bit_iff s i).1 h39)]; first | exact (tell_eq hrev).symm | exact (tell_eqF hrev).symm) | rw [if_neg fun hx => h39 ((bit_iff s i).2 hx)]⟩) (by dsimp only; omega) rfl (.c rfl .n) (.c rfl (.c rfl (.c rfl (.c rfl (.c rfl (.c rfl (.c rfl (.c rfl (.c rfl (.c rfl (.c rfl (.c rfl (.c rfl (.c rfl (.c rfl (.c rfl (.c rfl (.c rfl (.c rfl (.c rfl (.c rfl (.c rfl (.c rfl (.c rfl (.c rfl .n))))))))))))))))))))))))) (.c 0 rfl (.c 0 rfl .n))
      · refine kRegion rfl ?_
        refine lV (yMove rfl) rfl rfl ?_
        refine same (t := 40) (u := .iface 113 (.agg [i64 (((toldP m).getD i told0).1 : Nat), i64 ((toldP m).getD i told0).2.1.1, i64 ((toldP m).getD i told0).2.1.2].toArray)) rfl (if_neg hrev) ?_
        refine lE rfl ?_
        refine eInvokeW 1 rfl rfl (.c rfl .n) MT113 C117 (fun w hw hb => plain_any c n6 _ _ w hb (told_bd hM (by omega)).1 (by have := told_bd hM (i := i) (by omega); omega)) ?_
        refine lNil ?_
        refine kInN ?_
        refine kThen ?_
        refine kRegion rfl ?_
        refine lV (yAdd rfl rfl (by omega)) rfl rfl ?_
        refine lV (yMove rfl) rfl rfl ?_
        refine lNil ?_
        exact kRoundX (i + 1, tellP c (((toldP m).getD i told0).1, ((toldP m).getD i told0).2.1, false)) (⟨by dsimp only; omega, by dsimp only; rw [tellsP_succ, ← hc]; first | (rw [if_pos ((bit_iff s i).1 h39)]; first | exact (tell_eq hrev).symm | exact (tell_eqF hrev).symm) | rw [if_neg fun hx => h39 ((bit_iff s i).2 hx)]⟩) (by dsimp only; omega) rfl (.c rfl .n) (.c rfl (.c rfl (.c rfl (.c rfl (.c rfl (.c rfl (.c rfl (.c rfl (.c rfl (.c rfl (.c rfl (.c rfl (.c rfl (.c rfl (.c rfl (.c rfl (.c rfl (.c rfl (.c rfl (.c rfl (.c rfl (.c rfl (.c rfl (.c rfl (.c rfl .n))))))))))))))))))))))))) (.c 0 rfl (.c 0 rfl .n))
    · refine kIfF rfl ?_
      refine kSkip ?_
      refine kInN ?_
      refine kThen ?_
      refine kRegion rfl ?_
      refine lV (yAdd rfl rfl (by omega)) rfl rfl ?_
      refine lV (yMove rfl) rfl rfl ?_
      refine lNil ?_
      exact kRoundX (i + 1, c) (⟨by dsimp only; omega, by dsimp only; rw [tellsP_succ, ← hc]; first | (rw [if_pos ((bit_iff s i).1 h39)]; first | exact (tell_eq hrev).symm | exact (tell_eqF hrev).symm) | rw [if_neg fun hx => h39 ((bit_iff s i).2 hx)]⟩) (by dsimp only; omega) rfl (.c rfl .n) (.c rfl (.c rfl (.c rfl (.c rfl (.c rfl (.c rfl (.c rfl (.c rfl (.c rfl (.c rfl (.c rfl (.c rfl (.c rfl (.c rfl (.c rfl (.c rfl (.c rfl (.c rfl (.c rfl (.c rfl (.c rfl (.c rfl (.c rfl (.c rfl (.c rfl .n))))))))))))))))))))))))) (.c 0 rfl (.c 0 rfl .n))
  · refine kIfF rfl ?_
    refine kExit ?_
    refine kThenX ?_
    refine kThenX ?_
    refine kInX ?_
    refine kThen ?_
    refine kSeq ?_
    refine kRegion rfl ?_
    refine lE rfl ?_
    refine eCallW 1 rfl rfl (.c rfl .n) C89 (fun w hw hb => close_any c n6 300000 w hb (by omega) (by omega) (hc ▸ tells_bd hM s i hi)) ?_
    refine lV (yAssign rfl) rfl rfl ?_
    refine lNil ?_
    refine kThen ?_
    refine kSeq ?_
    refine kRegion rfl ?_
    refine lV (yLoadA (vs := (bCells _)) rfl A77 (cOwn 1 rfl (bSubAll _))) rfl rfl ?_
    refine lV (yMove rfl) rfl rfl ?_
    refine lE rfl ?_
    refine eStoreL 0 rfl rfl rfl rfl K77 rfl (rfl) ?_
    refine lV (yAssign rfl) rfl rfl ?_
    refine lNil ?_
    rw [bWrAll _ (closeP c 8) rfl]
    refine kThen ?_
    refine kRet ?_
    refine fRet rfl (.cA (us := (bCells _)) rfl A77 (cOwn 0 rfl (bSubAll _)) (.t rfl .n)) (endRet ?_)
    obtain rfl : i = m.sets.length := by omega
    simp only [packV, tightB, hc]
    rfl
/-- All settings, as a set. -/
def fullS (m : Meas) : Nat := 2 ^ m.sets.length - 1
theorem fullS_lt {m : Meas} (hM : MeasOk m) : fullS m < 4096 := by
  have hp : 2 ^ m.sets.length ≤ 2 ^ 12 := Nat.pow_le_pow_right (by omega) hM.n
  have hp0 : 0 < 2 ^ m.sets.length := Nat.two_pow_pos _
  unfold fullS; omega
theorem InMs.mk' {W w : World} {nm : Nat} {y : Loc} {m : Meas} {g : Own} {L : Heap} (hx : OS 1 g ((toldP m).map rowT)) (hm : InM W y m) (hw : Eff W [] L w) (hs : SubP (osL 117 g) L) (hb : w.heap[nm]? = some (blk (msC y m g m.sets.length) 98)) : InMs w nm y m g :=
  ⟨hb, (OS.rowsE told0 hx hw hs).congr (toldP_length m).symm fun _ _ => rfl, hm.eff hw⟩
/-- Images are of those that there are. -/
def imgsOk (m : Meas) (l : List Int) : Prop := ∀ n ∈ l, 0 ≤ n ∧ n ≤ m.images - 1
abbrev intC (l : List Int) (i : Nat) : List Value := [i64 (l.getD i 0)]
/-- What comes of asking for the truth. -/
def TruthR (w : World) (y : Loc) (m : Meas) (l : List Int) : Ending → World → Prop := fun e w' =>
  (imgsOk m l ∧ diagOk (tightB m (fullS m)) ∧ RetX w (fun x : Nat × Own => OS 1 x.2 ((toldP m).map rowT)) (fun x => .tuple [.pointer (some ⟨x.1, 0, none⟩), .agg (bCells (tightB m (fullS m))).toArray].toArray) (fun _ => []) (openL y m) e w') ∨
  (¬ imgsOk m l ∧ Pan w (.iface 106 (.agg [i64 2].toArray)) e w') ∨
  (imgsOk m l ∧ ¬ diagOk (tightB m (fullS m)) ∧ Pan w (.iface 106 (.agg [i64 10].toArray)) e w')

set_option maxRecDepth 100000 in
theorem truth_bad (y : Loc) (m : Meas) (v : Option Addr) (n c : Nat) (w : World) (hm : InM w y m) (hM : ¬ MeasOk m) : Calls Try.prog 55 [.agg (measC y m).toArray, .slice v n c].toArray w (Pan w (.iface 106 (.agg [i64 1].toArray))) := by
  refine fEnter Try.func55 rfl Try.ntmps55 rfl ?_
  refine kSeq ?_
  refine kRegion rfl ?_
  refine lE rfl ?_
  refine eBoxA rfl fun n2 => ?_
  refine lV (yAssign rfl) rfl rfl ?_
  refine lE rfl ?_
  refine eAlloc Z77 fun n5 => ?_
  refine lNil ?_
  refine kThen ?_
  refine kSeq ?_
  refine kRegion rfl ?_
  refine lV (yLoadA (vs := [_, _, _, _, _, _, _]) rfl A29 (cOwn 1 rfl rfl)) rfl rfl ?_
  refine lE rfl ?_
  refine eCallP rfl (.c rfl .n) C67 (fun w hw => open_bad y m w (hm.eff hw) hM) ?_
  refine kThenP ?_
  exact fPan (endPan rfl)

set_option maxRecDepth 100000 in
theorem truth_any (y : Loc) (m : Meas) (v : Option Addr) (c : Nat) (l : List Int) (k : Nat) (w : World) (hm : InM w y m) (hM : MeasOk m) (hk : k = l.length) (hv : SlE w v k 1 (intC l)) (hl : l.length ≤ 100) :
    Calls Try.prog 55 [.agg (measC y m).toArray, .slice v k c].toArray w (TruthR w y m l) := by
  have hI := hM.i
  have hF := fullS_lt hM
  subst hk
  refine fEnter Try.func55 rfl Try.ntmps55 rfl ?_
  refine kSeq ?_
  refine kRegion rfl ?_
  refine lE rfl ?_
  refine eBoxA rfl fun n2 => ?_
  refine lV (yAssign rfl) rfl rfl ?_
  refine lE rfl ?_
  refine eAlloc Z77 fun n5 => ?_
  refine lNil ?_
  refine kThen ?_
  refine kSeq ?_
  refine kRegion rfl ?_
  refine lV (yLoadA (vs := [_, _, _, _, _, _, _]) rfl A29 (cOwn 1 rfl rfl)) rfl rfl ?_
  refine lE rfl ?_
  refine eCallO rfl (.c rfl .n) C67 (fun w' hw => open_any y m w' (hm.eff hw) hM) fun x hx => ?_
  obtain ⟨nm, g⟩ := x
  dsimp only at hx ⊢
  refine lV (yAssign rfl) rfl rfl ?_
  refine lNil ?_
  refine kThen ?_
  refine kSeq ?_
  refine kSeq ?_
  refine kRegion rfl ?_
  refine lV (yMove rfl) rfl rfl ?_
  refine lV (yLen rfl S41) rfl rfl ?_
  refine lV (yMove rfl) rfl rfl ?_
  refine lNil ?_
  refine kThen ?_
  refine kBlock ?_
  refine kLoopX (ι := Nat) (fun i => i ≤ l.length ∧ ∀ j, j < i → 0 ≤ l.getD j 0 ∧ l.getD j 0 ≤ m.images - 1) (fun i => [(15, i64 (i : Nat))]) [(0, _), (1, _), (2, _), (4, _), (5, _), (11, _), (12, _), (6, _), (13, _), (14, _)] (fun i => []) (fun i => osL 117 g) [(n5, _), (n2, _), (nm, _)] (fun i => l.length - i) 0 (⟨Nat.zero_le _, fun j hj => absurd hj (by omega)⟩) rfl (.c rfl .n) (.c rfl (.c rfl (.c rfl (.c rfl (.c rfl (.c rfl (.c rfl (.c rfl (.c rfl (.c rfl .n)))))))))) (.c 0 rfl (.c 0 rfl (.c 0 rfl .r))) ?_
  rintro i ⟨hi, hok⟩
  refine kSeq ?_
  refine kRegion rfl ?_
  refine lV (yLss rfl rfl) rfl rfl ?_
  refine lNil ?_
  refine kThen ?_
  refine kSeq ?_
  refine split (t := 16) rfl (fun h16 => ?_) (fun h16 => ?_)
  · refine kIfT rfl ?_
    refine kSkip ?_
    refine kThen ?_
    refine kSeq ?_
    refine kBlock ?_
    refine kSeq ?_
    refine kRegion rfl ?_
    refine lV (yIndexS  rfl rfl S41 (hv.r) ((by omega))) rfl rfl ?_
    refine lV (yLoad1 rfl O3 (cSl0 (hv.r) ((by omega)) rfl)) rfl rfl ?_
    refine lV (yAssign rfl) rfl rfl ?_
    refine lNil ?_
    refine kThen ?_
    refine kRegion rfl ?_
    refine lV (yMove rfl) rfl rfl ?_
    refine lV (yMove rfl) rfl rfl ?_
    refine lV (yNilCheckP rfl) rfl rfl ?_
    refine lV (yFieldAddr rfl F98_0) rfl rfl ?_
    refine lV (yFieldAddr rfl F29_1) rfl rfl ?_
    refine lV (yLoad1 rfl O3 (cOwn 2 rfl rfl)) rfl rfl ?_
    refine lV (ySub rfl rfl (by omega)) rfl rfl ?_
    refine lV (yCall rfl (.c rfl (.c rfl (.c rfl .n))) C81 (fun w hw => within_any _ _ _ w)) rfl rfl ?_
    refine splitB (t := 26) rfl (fun h26 => ?_) (fun h26 => ?_)
    · refine lV (yCall rfl (.c rfl (.c rfl .n)) C85 (fun w hw => need_ok 2 w)) rfl rfl ?_
      refine lNil ?_
      refine kInN ?_
      refine kThen ?_
      refine kRegion rfl ?_
      refine lV (yAdd rfl rfl (by omega)) rfl rfl ?_
      refine lV (yMove rfl) rfl rfl ?_
      refine lNil ?_
      exact kRoundX (i + 1) (⟨by omega, fun j hj => by rcases Nat.lt_or_ge j i with h | h; (· exact hok j h); (obtain rfl : j = i := (by omega)); exact of_decide_eq_true h26⟩) (by omega) rfl (.c rfl .n) (.c rfl (.c rfl (.c rfl (.c rfl (.c rfl (.c rfl (.c rfl (.c rfl (.c rfl (.c rfl .n)))))))))) (.c 0 rfl (.c 0 rfl (.c 0 rfl .r)))
    · refine lE rfl ?_
      refine eCallP rfl (.c rfl (.c rfl .n)) C85 (fun w hw => need_pan 2 w) ?_
      refine kInP ?_
      refine kThenP ?_
      refine kThenP ?_
      refine kInP ?_
      refine kThenP ?_
      exact fPan (fun w' hw => .inr (.inl ⟨fun h => absurd (h _ (getD_mem (i := i) (by omega) 0)) (of_decide_eq_false h26), endPan rfl w' hw⟩))
  · refine kIfF rfl ?_
    refine kExit ?_
    refine kThenX ?_
    refine kThenX ?_
    refine kInX ?_
    refine kThen ?_
    refine kSeq ?_
    refine kRegion rfl ?_
    refine lV (yMove rfl) rfl rfl ?_
    refine lV (yMove rfl) rfl rfl ?_
    refine lV (yCall rfl (.c rfl .n) C69 (fun w hw => every_any nm y m g w (hw.blkAt 2 rfl) hM.n)) rfl rfl ?_
    refine lV (yCall rfl (.c rfl (.c rfl .n)) C68 (fun w hw => tight_any nm y m g (fullS m) w (by omega) (InMs.mk' hx hm hw (.d 0 (.d 0 (.d 0 .r))) (hw.blkAt 2 rfl)) hM)) rfl rfl ?_
    refine lV (yMove rfl) rfl rfl ?_
    refine lV (yExtract rfl rfl) rfl rfl ?_
    refine lV (yExtract rfl rfl) rfl rfl ?_
    refine lE rfl ?_
    refine eAlloc Z77 fun n9 => ?_
    refine lE rfl ?_
    refine eStoreL 0 rfl rfl rfl rfl K77 rfl (rfl) ?_
    refine lV (yAssign rfl) rfl rfl ?_
    refine knownB (t := 10) (c := (decide (diagOk (tightB m (fullS m))))) rfl (rfl) ?_
    refine lNil ?_
    rw [bWrAll _ (tightB m (fullS m)) rfl]
    refine kThen ?_
    refine kSeq ?_
    refine kRegion rfl ?_
    refine lV (yMove rfl) rfl rfl ?_
    refine split (t := 36) rfl (fun h36 => ?_) (fun h36 => ?_)
    · refine lV (yCall rfl (.c rfl (.c rfl .n)) C85 (fun w hw => need_ok 10 w)) rfl rfl ?_
      refine lNil ?_
      refine kThen ?_
      refine kSeq ?_
      refine kDrawE [(1, none)] [] [0, 1, 2] 1 hMix (by kernel_rfl) ?_
      refine .run rfl (yMove rfl) rfl rfl ?_
      refine .run rfl (yLoadA (vs := (bCells _)) rfl A77 (cOwn 0 rfl (bSubAll _))) rfl rfl ?_
      refine .run rfl (yAssign rfl) rfl rfl ?_
      refine .done ?_
      refine effStep 3 [] (by kernel_rfl) closedSt (hLeft [1] (by kernel_rfl) (.c (fun _ _ hs => hs.ef) .n)) ?_
      refine .c ?_ .n
      refine effOne rfl (gNone rfl (fStoreL 1 rfl rfl rfl rfl K77 rfl (rfl))) ?_
      refine effDone closedSt (hLeft [] (by kernel_rfl) .n) (by kernel_rfl) ?_
      rw [bWrAll _ (tightB m (fullS m)) rfl]
      refine kThen ?_
      refine kRet ?_
      refine fRet rfl (.t rfl (.cA (us := (bCells _)) rfl A77 (cOwn 1 rfl (bSubAll _)) .n)) ?_
      exact fun w' hw => .inl ⟨fun n hn => (by obtain ⟨j, hj, rfl⟩ := List.mem_iff_getElem.1 hn; have := hok j (by omega); rwa [← List.getElem_eq_getD (h := hj)] at this), h36, endX (nm, g) hx rfl rfl (.d 0 (.d 0 (.d 0 .r))) w' hw⟩
    · refine lE rfl ?_
      refine eCallP rfl (.c rfl (.c rfl .n)) C85 (fun w hw => need_pan 10 w) ?_
      refine kThenP ?_
      exact fPan (fun w' hw => .inr (.inr ⟨fun n hn => (by obtain ⟨j, hj, rfl⟩ := List.mem_iff_getElem.1 hn; have := hok j (by omega); rwa [← List.getElem_eq_getD (h := hj)] at this), h36, endPan rfl w' hw⟩))
end Go.Proofs.Ytoefcofplkbnkaa
