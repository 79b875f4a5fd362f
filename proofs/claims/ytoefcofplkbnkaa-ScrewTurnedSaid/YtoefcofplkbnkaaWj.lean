/-
  Walks: all sets in order; Clash, Drop.
-/
import Derived.Test.YtoefcofplkbnkaaWi
namespace Go.Proofs.Ytoefcofplkbnkaa
open ZW

theorem popF_le : ∀ (f s n : Nat), s < 2 ^ n → popF f s ≤ n
  | 0, s, n, _ => by simp [popF]
  | f + 1, s, 0, h => by
    have : s = 0 := by simpa using h
    subst this
    have := popF_le f 0 0 (by simp)
    simp only [popF, Nat.zero_mod, Nat.zero_div]; omega
  | f + 1, s, n + 1, h => by
    have := popF_le f (s / 2) n (by rw [Nat.pow_succ] at h; omega)
    simp only [popF]; omega

/-- What comes of going through all sets, the smaller ones first, those of as many by their numbers. -/
def SetsΦ (F : Nat) (stop : Nat → Bool) : Option Nat → Prop
  | none => ∀ s, s ≤ F → stop s = false
  | some s => s ≤ F ∧ ∀ s', s' ≤ F → (popc s' < popc s ∨ popc s' = popc s ∧ s' < s) → stop s' = false

set_option maxRecDepth 100000 in
theorem sets1_any (nm nb : Nat) (y : Loc) (m : Meas) (g : Own) (w : World) (hb8 : w.heap[nm]? = some (blk (msC y m g m.sets.length) 98)) (hN : m.sets.length ≤ 12) (hb : w.heap[nb]? = some (blk [.pointer (some ⟨nm, 0, none⟩)] 74)) (stop : Nat → Bool) :
    Iter Try.prog 90 [.pointer (some ⟨nb, 0, none⟩)] w (fun s => s ≤ fullS m) (fun s => .int .u64 (s : Nat)) stop (SetsΦ (fullS m) stop) := by
  intro l Mf hMf hY
  have hp : 2 ^ m.sets.length ≤ 2 ^ 12 := Nat.pow_le_pow_right (by omega) hN
  have hp0 : 0 < 2 ^ m.sets.length := Nat.two_pow_pos _
  have hF : fullS m = 2 ^ m.sets.length - 1 := rfl
  refine fEnter Try.func90 rfl Try.ntmps90 rfl ?_
  refine kSeq ?_
  refine kRegion rfl ?_
  refine lV (yLoad1 rfl O74 (cOldB (hb) rfl)) rfl rfl ?_
  refine lV (yNilCheckP rfl) rfl rfl ?_
  refine lV (yFieldAddr rfl F98_1) rfl rfl ?_
  refine lV (yLoad1 rfl O96 (cOldB (hb8) rfl)) rfl rfl ?_
  refine lV (yLen rfl S96) rfl rfl ?_
  refine lV (yAdd rfl rfl (by omega)) rfl rfl ?_
  refine lV (yMove rfl) rfl rfl ?_
  refine lNil ?_
  refine kThen ?_
  refine kBlock ?_
  refine kLoopX (ι := Nat) (fun k => k ≤ m.sets.length + 1 ∧ ∀ s, s ≤ fullS m → popc s < k → stop s = false) (fun k => [(11, i64 (k : Nat))]) [(0, _), (1, _), (5, _), (6, _), (7, _), (8, _), (9, _), (10, _)] (fun k => []) (fun k => []) [] (fun k => m.sets.length + 1 - k) 0 (⟨Nat.zero_le _, fun s _ h => absurd h (by omega)⟩) rfl (.c rfl .n) (.c rfl (.c rfl (.c rfl (.c rfl (.c rfl (.c rfl (.c rfl (.c rfl .n)))))))) .n ?_
  rintro k ⟨hk, hok⟩
  refine kSeq ?_
  refine kRegion rfl ?_
  refine lV (yLss rfl rfl) rfl rfl ?_
  refine lNil ?_
  refine kThen ?_
  refine kSeq ?_
  refine split (t := 12) rfl (fun h12 => ?_) (fun h12 => ?_)
  · refine kIfT rfl ?_
    refine kSkip ?_
    refine kThen ?_
    refine kSeq ?_
    refine kBlock ?_
    refine kSeq ?_
    refine kRegion rfl ?_
    refine lV (yMove rfl) rfl rfl ?_
    refine lV (yAssign rfl) rfl rfl ?_
    refine lNil ?_
    refine kThen ?_
    refine kScope ?_
    refine kSeq ?_
    refine kLabel ?_
    refine kThen ?_
    refine kSeq ?_
    refine kRegion rfl ?_
    refine lV (yAssign rfl) rfl rfl ?_
    refine lNil ?_
    refine kThen ?_
    refine kBlock ?_
    refine kLoopX (ι := Nat) (fun s => s ≤ fullS m + 1 ∧ ∀ q, q ≤ fullS m → popc q = k → q < s → stop q = false) (fun s => [(4, .int .u64 (s : Nat))]) [(0, _), (1, _), (5, _), (6, _), (7, _), (8, _), (9, _), (10, _), (11, _), (12, _), (13, _), (3, _)] (fun s => []) (fun s => []) [] (fun s => fullS m + 1 - s) 0 (⟨Nat.zero_le _, fun q _ _ h => absurd h (by omega)⟩) rfl (.c rfl .n) (.c rfl (.c rfl (.c rfl (.c rfl (.c rfl (.c rfl (.c rfl (.c rfl (.c rfl (.c rfl (.c rfl (.c rfl .n)))))))))))) .n ?_
    rintro s ⟨hs, hin⟩
    refine kSeq ?_
    refine kSeq ?_
    refine kRegion rfl ?_
    refine lV (yMove rfl) rfl rfl ?_
    refine lV (yLoad1 rfl O74 (cOldB (hb) rfl)) rfl rfl ?_
    refine lV (yCall rfl (.c rfl .n) C69 (fun w hw => every_any nm y m g w (Eff.old' hw hb8) hN)) rfl rfl ?_
    refine same (t := 16) (u := .int .u64 ((fullS m : Nat) : Int)) rfl (rfl) ?_
    refine lV (yLeq rfl rfl) rfl rfl ?_
    refine lNil ?_
    refine kThen ?_
    refine split (t := 17) rfl (fun h17 => ?_) (fun h17 => ?_)
    · refine kIfT rfl ?_
      refine kSkip ?_
      refine kThen ?_
      refine kSeq ?_
      refine kBlock ?_
      refine kSeq ?_
      refine kSeq ?_
      refine kRegion rfl ?_
      refine lV (yMove rfl) rfl rfl ?_
      refine lV (yCall rfl (.c rfl .n) C91 (fun w hw => ones_any s w (by omega))) rfl rfl ?_
      refine lV (yMove rfl) rfl rfl ?_
      refine lV (yNeq rfl rfl) rfl rfl ?_
      refine split (t := 23) rfl (fun h23 => ?_) (fun h23 => ?_)
      · refine lNil ?_
        refine kThen ?_
        refine kIfT rfl ?_
        refine kExit ?_
        refine kThenX ?_
        refine kInX ?_
        refine kThen ?_
        refine kRegion rfl ?_
        refine lV (yMove rfl) rfl rfl ?_
        refine lV (yAddN (b := 1) rfl rfl rfl (by omega)) rfl rfl ?_
        refine lV (yAssign rfl) rfl rfl ?_
        refine lNil ?_
        exact kRoundX (s + 1) (⟨by omega, fun q hq hpq hl => by rcases Nat.lt_or_ge q s with h | h; (· exact hin q hq hpq h); (obtain rfl : q = s := (by omega)); first | exact hst | exact absurd (by unfold popc at hpq; rw [hpq]) h23⟩) (by omega) rfl (.c rfl .n) (.c rfl (.c rfl (.c rfl (.c rfl (.c rfl (.c rfl (.c rfl (.c rfl (.c rfl (.c rfl (.c rfl (.c rfl .n)))))))))))) .n
      · refine lNil ?_
        refine kThen ?_
        refine kIfF rfl ?_
        refine kSkip ?_
        refine kThen ?_
        refine kSeq ?_
        refine kRegion rfl ?_
        refine lV (yMove rfl) rfl rfl ?_
        refine lV (yMove rfl) rfl rfl ?_
        refine lE rfl ?_
        refine eYield rfl (.c rfl .n) (fun w hw => hY w _ hw s (by omega)) (hMf s) (fun hst Lf => ?_) (fun hst => ?_)
        · refine lV (yNot rfl) rfl rfl ?_
          refine lNil ?_
          refine kThen ?_
          refine kIfT rfl ?_
          refine kRet ?_
          refine kInR ?_
          refine kThenR ?_
          refine kThenR ?_
          refine kInR ?_
          refine kScR ?_
          refine kInR ?_
          refine kThenR ?_
          refine kThenR ?_
          refine kInR ?_
          refine fRet rfl .n ?_
          exact fun w' hw' => ⟨rfl, .inr ⟨s, hst, ⟨by omega, fun q hq hc => by have h24 : popc s = k := (by unfold popc; omega); rcases hc with h | h; (· exact hok q hq (by omega)); exact hin q hq (by omega) h.2⟩, hw'.sub .n⟩⟩
        · refine lV (yNot rfl) rfl rfl ?_
          refine lNil ?_
          refine kThen ?_
          refine kIfF rfl ?_
          refine kSkip ?_
          refine kInN ?_
          refine kThen ?_
          refine kRegion rfl ?_
          refine lV (yMove rfl) rfl rfl ?_
          refine lV (yAddN (b := 1) rfl rfl rfl (by omega)) rfl rfl ?_
          refine lV (yAssign rfl) rfl rfl ?_
          refine lNil ?_
          exact kRoundX (s + 1) (⟨by omega, fun q hq hpq hl => by rcases Nat.lt_or_ge q s with h | h; (· exact hin q hq hpq h); (obtain rfl : q = s := (by omega)); first | exact hst | exact absurd (by unfold popc at hpq; rw [hpq]) h23⟩) (by omega) rfl (.c rfl .n) (.c rfl (.c rfl (.c rfl (.c rfl (.c rfl (.c rfl (.c rfl (.c rfl (.c rfl (.c rfl (.c rfl (.c rfl .n)))))))))))) .n
    · refine kIfF rfl ?_
      refine kExit ?_
      refine kThenX ?_
      refine kThenX ?_
      refine kInX ?_
      refine kScN ?_
      refine kInN ?_
      refine kThen ?_
      refine kRegion rfl ?_
      refine lV (yAdd rfl rfl (by omega)) rfl rfl ?_
      refine lV (yMove rfl) rfl rfl ?_
      refine lNil ?_
      exact kRoundX (k + 1) (⟨by omega, fun q hq hpq => by rcases Nat.lt_or_ge (popc q) k with h | h; (· exact hok q hq h); exact hin q hq (by omega) (by omega)⟩) (by omega) rfl (.c rfl .n) (.c rfl (.c rfl (.c rfl (.c rfl (.c rfl (.c rfl (.c rfl (.c rfl .n)))))))) .n
  · refine kIfF rfl ?_
    refine kExit ?_
    refine kThenX ?_
    refine kThenX ?_
    refine kInX ?_
    refine fEnd rfl .n ?_
    exact fun w' hw' => ⟨rfl, .inl ⟨fun q hq => hok q hq (by have := popF_le 13 q m.sets.length (by omega); unfold popc; omega), hw'.sub .n⟩⟩

set_option maxRecDepth 100000 in
theorem sets_any (nm : Nat) (w : World) : Calls Try.prog 70 [.pointer (some ⟨nm, 0, none⟩)].toArray w
    (RetX w (fun _ : Nat => True) (fun nb => .func (.func 90) [].toArray [.pointer (some ⟨nb, 0, none⟩)].toArray) (fun _ => []) (fun nb => [(nb, blk [.pointer (some ⟨nm, 0, none⟩)] 74)])) := by
  refine fEnter Try.func70 rfl Try.ntmps70 rfl ?_
  refine kSeq ?_
  refine kRegion rfl ?_
  refine lE rfl ?_
  refine eBox1 rfl rfl fun n1 => ?_
  refine lV (yAssign rfl) rfl rfl ?_
  refine lNil ?_
  refine kThen ?_
  refine kSeq ?_
  refine kRegion rfl ?_
  refine lV (yMakeFunc .n (.c rfl .n)) rfl rfl ?_
  refine lV (yAssign rfl) rfl rfl ?_
  refine lNil ?_
  refine kThen ?_
  refine kRet ?_
  refine fRet rfl (.t rfl .n) ?_
  exact endX n1 trivial rfl rfl .r

/-- The first set, in that order, of which something is so. -/
def bestS (stop : Nat → Bool) : Nat → Option Nat
  | 0 => none
  | n + 1 => match bestS stop n with
    | none => if stop n = true then some n else none
    | some b => if stop n = true ∧ popc n < popc b then some n else some b
theorem bestS_spec (stop : Nat → Bool) : ∀ n, match bestS stop n with
    | none => ∀ s, s < n → stop s = false
    | some b => b < n ∧ stop b = true ∧ ∀ s, s < n → stop s = true → popc b < popc s ∨ popc b = popc s ∧ b ≤ s
  | 0 => by simp [bestS]
  | n + 1 => by
    have ih := bestS_spec stop n
    simp only [bestS]
    cases hb : bestS stop n with
    | none =>
      rw [hb] at ih
      simp only at ih ⊢
      by_cases hn : stop n = true
      · rw [if_pos hn]
        refine ⟨by omega, hn, fun s hs hst => ?_⟩
        rcases Nat.lt_or_ge s n with h | h
        · rw [ih s h] at hst; cases hst
        · obtain rfl : s = n := by omega
          exact .inr ⟨rfl, Nat.le_refl _⟩
      · rw [if_neg hn]
        intro s hs
        rcases Nat.lt_or_ge s n with h | h
        · exact ih s h
        · obtain rfl : s = n := by omega
          simpa using hn
    | some b =>
      rw [hb] at ih
      simp only at ih ⊢
      obtain ⟨h1, h2, h3⟩ := ih
      by_cases hn : stop n = true ∧ popc n < popc b
      · rw [if_pos hn]
        refine ⟨by omega, hn.1, fun s hs hst => ?_⟩
        rcases Nat.lt_or_ge s n with h | h
        · have := h3 s h hst; omega
        · obtain rfl : s = n := by omega
          exact .inr ⟨rfl, Nat.le_refl _⟩
      · rw [if_neg hn]
        refine ⟨by omega, h2, fun s hs hst => ?_⟩
        rcases Nat.lt_or_ge s n with h | h
        · exact h3 s h hst
        · obtain rfl : s = n := by omega
          have : ¬ popc s < popc b := fun h => hn ⟨hst, h⟩
          omega
theorem SetsΦ.some_eq {F s : Nat} {stop : Nat → Bool} (h : SetsΦ F stop (some s)) (hs : stop s = true) : bestS stop (F + 1) = some s := by
  have hb := bestS_spec stop (F + 1)
  obtain ⟨h1, h2⟩ := h
  cases hc : bestS stop (F + 1) with
  | none => rw [hc] at hb; have := hb s (by omega); rw [hs] at this; cases this
  | some b =>
    rw [hc] at hb
    obtain ⟨b1, b2, b3⟩ := hb
    have h3 := b3 s (by omega) hs
    have h4 : ¬ (popc b < popc s ∨ popc b = popc s ∧ b < s) := fun h => by have := h2 b (by omega) h; rw [b2] at this; cases this
    congr 1; omega
theorem SetsΦ.none_eq {F : Nat} {stop : Nat → Bool} (h : SetsΦ F stop none) : bestS stop (F + 1) = none := by
  have hb := bestS_spec stop (F + 1)
  cases hc : bestS stop (F + 1) with
  | none => rfl
  | some b =>
    rw [hc] at hb
    have := h b (by omega); rw [hb.2.1] at this; cases this

/-! ### Clash -/
def badS (m : Meas) (s : Nat) : Bool := !decide (diagOk (tightB m s))
def canS (m : Meas) (s : Nat) : Bool := decide (diagOk (tightB m (less (fullS m) s)))
def clashE (m : Meas) : Int × Int := if ¬ MeasOk m then (0, 1) else if diagOk (tightB m (fullS m)) then (0, 0) else ((((bestS (badS m) (fullS m + 1)).getD 0 : Nat) : Int), 0)
def dropE (m : Meas) : Int × Int := if ¬ MeasOk m then (0, 1) else ((((bestS (canS m) (fullS m + 1)).getD (fullS m) : Nat) : Int), 0)

set_option maxRecDepth 100000 in
theorem clash_1 (y : Loc) (m : Meas) (w : World) (hm : InM w y m) (hM : ¬ MeasOk m) : Calls Try.prog 26 [.agg (measC y m).toArray].toArray w (Ret w (outI (0, 1))) := by
  refine fEnter Try.func26 rfl Try.ntmps26 rfl ?_
  refine kSeq ?_
  refine kRegion rfl ?_
  refine lE rfl ?_
  refine eBoxA rfl fun n1 => ?_
  refine lE rfl ?_
  refine eAlloc Z3 fun n2 => ?_
  refine lE rfl ?_
  refine eAlloc Z33 fun n3 => ?_
  refine lNil ?_
  refine kThen ?_
  refine kSeq ?_
  refine kRegion rfl ?_
  refine lV (yMakeFunc .n (.c rfl .n)) rfl rfl ?_
  refine lE rfl ?_
  refine eDefer rfl .n ?_
  refine lNil ?_
  refine kThen ?_
  refine kSeq ?_
  refine kRegion rfl ?_
  refine lV (yLoadA (vs := [_, _, _, _, _, _, _]) rfl A29 (cOwn 2 rfl rfl)) rfl rfl ?_
  refine lE rfl ?_
  refine eCallP rfl (.c rfl .n) C67 (fun w hw => open_bad y m w (hm.eff hw) hM) ?_
  refine kThenP ?_
  refine fPanC 0 D66 C66 rfl rfl (.c1 rfl O3 (cOwn 1 rfl rfl) (.c1 rfl O33 (cOwn 0 rfl rfl) .n)) (endRet ?_)
  rfl
set_option maxRecDepth 100000 in
theorem clash_0 (y : Loc) (m : Meas) (w : World) (hm : InM w y m) (hM : MeasOk m) : Calls Try.prog 26 [.agg (measC y m).toArray].toArray w (Ret w (outI (clashE m))) := by
  have hN := hM.n
  have hF := fullS_lt hM
  refine fEnter Try.func26 rfl Try.ntmps26 rfl ?_
  refine kSeq ?_
  refine kRegion rfl ?_
  refine lE rfl ?_
  refine eBoxA rfl fun n1 => ?_
  refine lE rfl ?_
  refine eAlloc Z3 fun n2 => ?_
  refine lE rfl ?_
  refine eAlloc Z33 fun n3 => ?_
  refine lNil ?_
  refine kThen ?_
  refine kSeq ?_
  refine kRegion rfl ?_
  refine lV (yMakeFunc .n (.c rfl .n)) rfl rfl ?_
  refine lE rfl ?_
  refine eDefer rfl .n ?_
  refine lNil ?_
  refine kThen ?_
  refine kSeq ?_
  refine kRegion rfl ?_
  refine lV (yLoadA (vs := [_, _, _, _, _, _, _]) rfl A29 (cOwn 2 rfl rfl)) rfl rfl ?_
  refine lE rfl ?_
  refine eCallO rfl (.c rfl .n) C67 (fun w hw => open_any y m w (hm.eff hw) hM) fun x hx => ?_
  obtain ⟨nm, g⟩ := x
  dsimp only at hx ⊢
  refine lV (yAssign rfl) rfl rfl ?_
  refine lNil ?_
  refine kThen ?_
  refine kSeq ?_
  refine kRegion rfl ?_
  refine lV (yMove rfl) rfl rfl ?_
  refine lV (yMakeFunc (.c rfl .n) .n) rfl rfl ?_
  refine lE rfl ?_
  refine eAlloc Z87 fun n5 => ?_
  refine lE rfl ?_
  refine eStoreL 0 rfl rfl rfl rfl K87 rfl (rfl) ?_
  refine lNil ?_
  refine kThen ?_
  refine kSeq ?_
  refine kSeq ?_
  refine kDrawE [(0, none), (2, none), (3, none)] [] [0, 1, 2, 3, 4, 5, 6, 9] 2 hMix (by kernel_rfl) ?_
  refine .run rfl (yLoad1 rfl O87 (cOwn 0 rfl rfl)) rfl rfl ?_
  refine .run rfl (yMove rfl) rfl rfl ?_
  refine .run rfl (yvSame (u := .int .u64 ((fullS m : Nat) : Int)) (yCall rfl (.c rfl .n) C69 (fun w hw => every_any nm y m g w (hw.blkAt 4 rfl) hN)) (rfl)) rfl rfl ?_
  refine .run rfl (yCall rfl (.c rfl .n) C68 (fun w hw => tight_any nm y m g (fullS m) w (by omega) (InMs.mk' hx hm hw (.d 0 (.d 0 (.d 0 (.d 0 (.d 0 .r))))) (hw.blkAt 4 rfl)) hM)) rfl rfl ?_
  refine .run rfl (yMove rfl) rfl rfl ?_
  refine .run rfl (yExtract rfl rfl) rfl rfl ?_
  refine .run rfl (yExtract rfl rfl) rfl rfl ?_
  refine .run rfl (yAssign rfl) rfl rfl ?_
  refine .done ?_
  refine effStep 7 [] (by kernel_rfl) closedSt (hLeft [0, 2, 3] (by kernel_rfl) (.c (fun _ _ hs => hs.ef) (.c (fun _ _ hs => hs.ef) (.c (fun _ _ hs => hs.ef) .n)))) ?_
  refine .c ?_ .n
  refine effOne rfl (gNone rfl (fAlloc Z77)) ?_
  refine effStep 8 [] (by kernel_rfl) (closedEx fun n6 => closedSt) (hLeft [0, 2, 3] (by kernel_rfl) (.c (fun _ _ ⟨n6, hs⟩ => hs.ef.sub (.c 1 rfl (.c 1 rfl (.c 1 rfl (.c 1 rfl (.c 1 rfl (.d 0 .r))))))) (.c (fun _ _ ⟨n6, hs⟩ => hs.ef.sub (.c 1 rfl (.c 1 rfl (.c 1 rfl (.c 1 rfl (.c 1 rfl (.d 0 .r))))))) (.c (fun _ _ ⟨n6, hs⟩ => hs.ef.sub (.c 1 rfl (.c 1 rfl (.c 1 rfl (.c 1 rfl (.c 1 rfl (.d 0 .r))))))) .n)))) ?_
  refine .c ?_ .n
  refine effOne rfl (opEx fun n6 => (gNone rfl (fStoreL 0 rfl rfl rfl rfl K77 rfl (rfl)))) ?_
  refine effDone (closedEx fun n6 => closedSt) (hLeft [] (by kernel_rfl) .n) (by kernel_rfl) ?_
  refine trEx fun n6 => ?_
  rw [bWrAll _ (tightB m (fullS m)) rfl]
  refine kThen ?_
  refine kSeq ?_
  refine kRegion rfl ?_
  refine lV (yMove rfl) rfl rfl ?_
  refine lNil ?_
  refine kThen ?_
  refine splitB (t := 23) rfl (fun h23 => ?_) (fun h23 => ?_)
  · refine kIfT rfl ?_
    refine kSeq ?_
    refine kRegion rfl ?_
    refine lE rfl ?_
    refine eStoreL 3 rfl rfl rfl rfl K3 rfl (rfl) ?_
    refine lE rfl ?_
    refine eStoreL 2 rfl rfl rfl rfl K33 rfl (rfl) ?_
    refine lNil ?_
    refine kThen ?_
    refine kRet ?_
    refine kThenR ?_
    refine fRetC D66 C66 rfl (.c1 rfl O3 (cOwn 3 rfl rfl) (.c1 rfl O33 (cOwn 2 rfl rfl) .n)) (endRet ?_)
    simp only [packV, clashE, if_neg (not_not_intro hM), if_pos (of_decide_eq_true h23)]
  · refine kIfF rfl ?_
    refine kSkip ?_
    refine kThen ?_
    refine kSeq ?_
    refine kSeq ?_
    refine kRegion rfl ?_
    refine lV (yMove rfl) rfl rfl ?_
    refine lE rfl ?_
    refine eCallX rfl (.c rfl .n) C70 (fun w hw => sets_any nm w) fun nb hnb => ?_
    refine lNil ?_
    refine kThen ?_
    refine kBlock ?_
    refine kRange (α := Nat) (fun s => s ≤ fullS m) (fun s => .int .u64 (s : Nat)) (badS m) (SetsΦ (fullS m) (badS m)) [(n2, _), (n3, _), (n5, _)] (fun s => [(n2, blk [i64 (s : Nat)] 3), (n3, blk [i64 0] 33), (n5, blk [.func (.func 68) [.pointer (some ⟨nm, 0, none⟩)].toArray [].toArray] 87)]) rfl C90 rfl (.c 4 rfl (.c 3 rfl (.c 2 rfl .n))) (fun _ => rfl) (fun w hw => sets1_any nm nb y m g w (hw.blkAt 6 rfl) hN (hw.blkAt 0 rfl) (badS m)) ?_ ?_ ?_
    · intro l r w' s hs hr hin hE
      refine kRegion rfl ?_
      refine lV (yAssign rfl) rfl rfl ?_
      refine lNil ?_
      refine kThen ?_
      refine rBegin hr.1 ?_
      refine kBlock ?_
      refine kSeq ?_
      refine kRegion rfl ?_
      refine lV (yLoad1 rfl O87 (cOwn 3 rfl rfl)) rfl rfl ?_
      refine lV (yMove rfl) rfl rfl ?_
      refine lV (yCall rfl (.c rfl .n) C68 (fun w hw => tight_any nm y m g s w (by omega) (InMs.mk' hx hm (hin _ _ _ hw) (.d 0 (.d 0 (.d 0 (.d 0 (.d 0 (.d 0 (.d 0 .r))))))) ((hin _ _ _ hw).blkAt 6 rfl)) hM)) rfl rfl ?_
      refine lV (yMove rfl) rfl rfl ?_
      refine lV (yExtract rfl rfl) rfl rfl ?_
      refine lV (yExtract rfl rfl) rfl rfl ?_
      refine lE rfl ?_
      refine eAlloc Z77 fun n9 => ?_
      refine lE rfl ?_
      refine eStoreL 0 rfl rfl rfl rfl K77 rfl (rfl) ?_
      refine lV (yAssign rfl) rfl rfl ?_
      refine lNil ?_
      refine kThen ?_
      refine kSeq ?_
      refine kRegion rfl ?_
      refine lV (yMove rfl) rfl rfl ?_
      refine lV (yNot rfl) rfl rfl ?_
      refine lNil ?_
      refine kThen ?_
      refine splitB (t := 34) rfl (fun h34 => ?_) (fun h34 => ?_)
      · refine kIfT rfl ?_
        refine kSeq ?_
        refine kRegion rfl ?_
        refine lV (yMove rfl) rfl rfl ?_
        refine lV (yConvInt rfl U90 U3 (conv_ok (by omega))) rfl rfl ?_
        refine lE rfl ?_
        refine eStoreM 1 rfl rfl rfl rfl K3 rfl (rfl) ?_
        refine lE rfl ?_
        refine eStoreM 2 rfl rfl rfl rfl K33 rfl (rfl) ?_
        refine lNil ?_
        refine kThen ?_
        refine kRet ?_
        refine kInR ?_
        rw [show badS m s = true from h34]
        exact rRet
      · refine kIfF rfl ?_
        refine kSkip ?_
        refine kInN ?_
        rw [show badS m s = false from h34]
        exact rNormal hr hE
    · intro hΦ r l o
      exact trFalse (by have := hΦ (fullS m) (Nat.le_refl _); simp only [badS, Bool.not_eq_false', decide_eq_true_eq] at this; rw [decide_eq_false_iff_not] at h23; exact h23 this)
    · intro s hst hΦ r l o
      refine kInR ?_
      refine kThenR ?_
      refine fMark 1 rfl (.inl rfl) ?_
      refine fRetC D66 C66 rfl (.c1 rfl O3 (cOwn 2 rfl rfl) (.c1 rfl O33 (cOwn 3 rfl rfl) .n)) (endRet ?_)
      simp only [packV, clashE, if_neg (not_not_intro hM), if_neg (of_decide_eq_false h23), hΦ.some_eq hst, Option.getD_some]
theorem clash_any (y : Loc) (m : Meas) (w : World) (hm : InM w y m) : Calls Try.prog 26 [.agg (measC y m).toArray].toArray w (Ret w (outI (clashE m))) := by
  by_cases hM : MeasOk m
  · exact clash_0 y m w hm hM
  · unfold clashE; rw [if_pos hM]; exact clash_1 y m w hm hM

/-! ### Drop -/
set_option maxRecDepth 100000 in
theorem drop_1 (y : Loc) (m : Meas) (w : World) (hm : InM w y m) (hM : ¬ MeasOk m) : Calls Try.prog 27 [.agg (measC y m).toArray].toArray w (Ret w (outI (0, 1))) := by
  refine fEnter Try.func27 rfl Try.ntmps27 rfl ?_
  refine kSeq ?_
  refine kRegion rfl ?_
  refine lE rfl ?_
  refine eBoxA rfl fun n1 => ?_
  refine lE rfl ?_
  refine eAlloc Z3 fun n2 => ?_
  refine lE rfl ?_
  refine eAlloc Z33 fun n3 => ?_
  refine lNil ?_
  refine kThen ?_
  refine kSeq ?_
  refine kRegion rfl ?_
  refine lV (yMakeFunc .n (.c rfl .n)) rfl rfl ?_
  refine lE rfl ?_
  refine eDefer rfl .n ?_
  refine lNil ?_
  refine kThen ?_
  refine kSeq ?_
  refine kRegion rfl ?_
  refine lV (yLoadA (vs := [_, _, _, _, _, _, _]) rfl A29 (cOwn 2 rfl rfl)) rfl rfl ?_
  refine lE rfl ?_
  refine eCallP rfl (.c rfl .n) C67 (fun w hw => open_bad y m w (hm.eff hw) hM) ?_
  refine kThenP ?_
  refine fPanC 0 D71 C71 rfl rfl (.c1 rfl O3 (cOwn 1 rfl rfl) (.c1 rfl O33 (cOwn 0 rfl rfl) .n)) (endRet ?_)
  rfl
set_option maxRecDepth 100000 in
theorem drop_0 (y : Loc) (m : Meas) (w : World) (hm : InM w y m) (hM : MeasOk m) : Calls Try.prog 27 [.agg (measC y m).toArray].toArray w (Ret w (outI (dropE m))) := by
  have hN := hM.n
  have hF := fullS_lt hM
  refine fEnter Try.func27 rfl Try.ntmps27 rfl ?_
  refine kSeq ?_
  refine kRegion rfl ?_
  refine lE rfl ?_
  refine eBoxA rfl fun n1 => ?_
  refine lE rfl ?_
  refine eAlloc Z3 fun n2 => ?_
  refine lE rfl ?_
  refine eAlloc Z33 fun n3 => ?_
  refine lNil ?_
  refine kThen ?_
  refine kSeq ?_
  refine kRegion rfl ?_
  refine lV (yMakeFunc .n (.c rfl .n)) rfl rfl ?_
  refine lE rfl ?_
  refine eDefer rfl .n ?_
  refine lNil ?_
  refine kThen ?_
  refine kSeq ?_
  refine kRegion rfl ?_
  refine lV (yLoadA (vs := [_, _, _, _, _, _, _]) rfl A29 (cOwn 2 rfl rfl)) rfl rfl ?_
  refine lE rfl ?_
  refine eCallO rfl (.c rfl .n) C67 (fun w hw => open_any y m w (hm.eff hw) hM) fun x hx => ?_
  obtain ⟨nm, g⟩ := x
  dsimp only at hx ⊢
  refine lE rfl ?_
  refine eAlloc Z74 fun n4 => ?_
  refine lE rfl ?_
  refine eStoreL 0 rfl rfl rfl rfl K74 rfl (rfl) ?_
  refine lNil ?_
  refine kThen ?_
  refine kSeq ?_
  refine kSeq ?_
  refine kRegion rfl ?_
  refine lV (yLoad1 rfl O74 (cOwn 0 rfl rfl)) rfl rfl ?_
  refine lE rfl ?_
  refine eCallX rfl (.c rfl .n) C70 (fun w hw => sets_any nm w) fun nb hnb => ?_
  refine lNil ?_
  refine kThen ?_
  refine kBlock ?_
  refine kRange (α := Nat) (fun s => s ≤ fullS m) (fun s => .int .u64 (s : Nat)) (canS m) (SetsΦ (fullS m) (canS m)) [(n2, _), (n3, _), (n4, _)] (fun s => [(n2, blk [i64 (s : Nat)] 3), (n3, blk [i64 0] 33), (n4, blk [.pointer (some ⟨nm, 0, none⟩)] 74)]) rfl C90 rfl (.c 3 rfl (.c 2 rfl (.c 1 rfl .n))) (fun _ => rfl) (fun w hw => sets1_any nm nb y m g w (hw.blkAt 5 rfl) hN (hw.blkAt 0 rfl) (canS m)) ?_ ?_ ?_
  · intro l r w' s hs hr hin hE
    refine kRegion rfl ?_
    refine lV (yAssign rfl) rfl rfl ?_
    refine lNil ?_
    refine kThen ?_
    refine rBegin hr.1 ?_
    refine kBlock ?_
    refine kSeq ?_
    refine kDrawE [(0, none), (1, none), (2, none), (5, none)] [] [0, 1, 2, 3, 4, 5, 6, 7, 8, 11] 2 hMix (by kernel_rfl) ?_
    refine .run rfl (yLoad1 rfl O74 (cOwn 3 rfl rfl)) rfl rfl ?_
    refine .run rfl (yLoad1 rfl O74 (cOwn 3 rfl rfl)) rfl rfl ?_
    refine .run rfl (yvSame (u := .int .u64 ((fullS m : Nat) : Int)) (yCall rfl (.c rfl .n) C69 (fun w hw => every_any nm y m g w ((hin _ _ _ hw).blkAt 5 rfl) hN)) (rfl)) rfl rfl ?_
    refine .run rfl (yMove rfl) rfl rfl ?_
    refine .run rfl (yAndNot rfl rfl rfl (by omega) (by omega)) rfl rfl ?_
    refine .run rfl (yCall rfl (.c rfl (.c rfl .n)) C68 (fun w hw => tight_any nm y m g (less (fullS m) s) w (by have := less_lt (a := fullS m) (b := s) (n := 12) (by omega); omega) (InMs.mk' hx hm (hin _ _ _ hw) (.d 0 (.d 0 (.d 0 (.d 0 (.d 0 (.d 0 .r)))))) ((hin _ _ _ hw).blkAt 5 rfl)) hM)) rfl rfl ?_
    refine .run rfl (yMove rfl) rfl rfl ?_
    refine .run rfl (yExtract rfl rfl) rfl rfl ?_
    refine .run rfl (yExtract rfl rfl) rfl rfl ?_
    refine .run rfl (yAssign rfl) rfl rfl ?_
    refine .done ?_
    refine effStep 9 [] (by kernel_rfl) closedSt (hLeft [0, 1, 2, 5] (by kernel_rfl) (.c (fun _ _ hs => hs.ef) (.c (fun _ _ hs => hs.ef) (.c (fun _ _ hs => hs.ef) (.c (fun _ _ hs => hs.ef) .n))))) ?_
    refine .c ?_ .n
    refine effOne rfl (gNone rfl (fAlloc Z77)) ?_
    refine effStep 10 [] (by kernel_rfl) (closedEx fun n6 => closedSt) (hLeft [0, 1, 2, 5] (by kernel_rfl) (.c (fun _ _ ⟨n6, hs⟩ => hs.ef.sub .n) (.c (fun _ _ ⟨n6, hs⟩ => hs.ef.sub .n) (.c (fun _ _ ⟨n6, hs⟩ => hs.ef.sub .n) (.c (fun _ _ ⟨n6, hs⟩ => hs.ef.sub .n) .n))))) ?_
    refine .c ?_ .n
    refine effOne rfl (opEx fun n6 => (gNone rfl (fStoreL 0 rfl rfl rfl rfl K77 rfl (rfl)))) ?_
    refine effDone (closedEx fun n6 => closedSt) (hLeft [] (by kernel_rfl) .n) (by kernel_rfl) ?_
    refine trEx fun n6 => ?_
    refine kThen ?_
    refine kSeq ?_
    refine kRegion rfl ?_
    refine lV (yMove rfl) rfl rfl ?_
    refine lNil ?_
    refine kThen ?_
    refine splitB (t := 23) rfl (fun h23 => ?_) (fun h23 => ?_)
    · refine kIfT rfl ?_
      refine kSeq ?_
      refine kRegion rfl ?_
      refine lV (yMove rfl) rfl rfl ?_
      refine lV (yConvInt rfl U90 U3 (conv_ok (by omega))) rfl rfl ?_
      refine lE rfl ?_
      refine eStoreM 1 rfl rfl rfl rfl K3 rfl (rfl) ?_
      refine lE rfl ?_
      refine eStoreM 2 rfl rfl rfl rfl K33 rfl (rfl) ?_
      refine lNil ?_
      refine kThen ?_
      refine kRet ?_
      refine kInR ?_
      rw [show canS m s = true from h23]
      exact rRet
    · refine kIfF rfl ?_
      refine kSkip ?_
      refine kInN ?_
      rw [show canS m s = false from h23]
      exact rNormal hr hE
  · intro hΦ r l o
    refine kInN ?_
    refine kThen ?_
    refine kSeq ?_
    refine kRegion rfl ?_
    refine lV (yLoad1 rfl O74 (cOwn 3 rfl rfl)) rfl rfl ?_
    refine lV (yCall rfl (.c rfl .n) C69 (fun w hw => every_any nm y m g w (hw.blkAt 7 rfl) hN)) rfl rfl ?_
    refine same (t := 27) (u := .int .u64 ((fullS m : Nat) : Int)) rfl (rfl) ?_
    refine lV (yConvInt rfl U90 U3 (conv_ok (by omega))) rfl rfl ?_
    refine lE rfl ?_
    refine eStoreL 5 rfl rfl rfl rfl K3 rfl (rfl) ?_
    refine lE rfl ?_
    refine eStoreL 4 rfl rfl rfl rfl K33 rfl (rfl) ?_
    refine lNil ?_
    refine kThen ?_
    refine kRet ?_
    refine fMark 1 rfl (.inl rfl) ?_
    refine fRetC D71 C71 rfl (.c1 rfl O3 (cOwn 5 rfl rfl) (.c1 rfl O33 (cOwn 4 rfl rfl) .n)) (endRet ?_)
    simp only [packV, dropE, if_neg (not_not_intro hM), hΦ.none_eq, Option.getD_none]
  · intro s hst hΦ r l o
    refine kInR ?_
    refine kThenR ?_
    refine fMark 1 rfl (.inl rfl) ?_
    refine fRetC D71 C71 rfl (.c1 rfl O3 (cOwn 2 rfl rfl) (.c1 rfl O33 (cOwn 3 rfl rfl) .n)) (endRet ?_)
    simp only [packV, dropE, if_neg (not_not_intro hM), hΦ.some_eq hst, Option.getD_some]
theorem drop_any (y : Loc) (m : Meas) (w : World) (hm : InM w y m) : Calls Try.prog 27 [.agg (measC y m).toArray].toArray w (Ret w (outI (dropE m))) := by
  by_cases hM : MeasOk m
  · exact drop_0 y m w hm hM
  · unfold dropE; rw [if_pos hM]; exact drop_1 y m w hm hM
end Go.Proofs.Ytoefcofplkbnkaa
