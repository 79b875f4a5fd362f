/-
  Walks: all sets in order; Clash, Drop, Explain.
-/
import Derived.Test.YtiaaidcdoenloaaQf
namespace Go.Proofs.Ytiaaidcdoenloaa
open ZW

/-- How many there are in a set. -/
def popF : Nat → Nat → Nat
  | 0, _ => 0
  | f + 1, n => n % 2 + popF f (n / 2)
def popc (n : Nat) : Nat := popF 13 n
def oc1 (s : Nat) : Nat := (s / 2 ^ 1 &&& 6148914691236517205) + (s &&& 6148914691236517205)
def oc2 (s : Nat) : Nat := (s / 2 ^ 2 &&& 3689348814741910323) + (s &&& 3689348814741910323)
def oc3 (s : Nat) : Nat := (s / 2 ^ 4 + s) &&& 1085102592571150095
def oc4 (s : Nat) : Nat := s + s / 2 ^ 8
def oc5 (s : Nat) : Nat := s + s / 2 ^ 16
def oc6 (s : Nat) : Nat := s + s / 2 ^ 32
theorem oc_popc : ∀ s, s < 8192 → (oc6 (oc5 (oc4 (oc3 (oc2 (oc1 s))))) &&& 127) = popF 13 s := by
  have h : ((List.range 8192).all fun s => (oc6 (oc5 (oc4 (oc3 (oc2 (oc1 s))))) &&& 127) == popF 13 s) = true := by kernel_rfl
  intro s hs
  simpa using List.all_eq_true.1 h s (List.mem_range.2 hs)
theorem oc1_lt {s n : Nat} (h : s < n) : oc1 s < 2 * n := by
  have h1 := Nat.and_le_left (n := s / 2 ^ 1) (m := 6148914691236517205)
  have h2 := Nat.and_le_left (n := s) (m := 6148914691236517205)
  unfold oc1; omega
theorem oc2_lt {s n : Nat} (h : s < n) : oc2 s < 2 * n := by
  have h1 := Nat.and_le_left (n := s / 2 ^ 2) (m := 3689348814741910323)
  have h2 := Nat.and_le_left (n := s) (m := 3689348814741910323)
  unfold oc2; omega
theorem oc3_lt {s n : Nat} (h : s < n) : oc3 s < 2 * n := by
  have h1 := Nat.and_le_left (n := s / 2 ^ 4 + s) (m := 1085102592571150095)
  unfold oc3; omega

set_option maxRecDepth 100000 in
theorem ones64_any (s : Nat) (w : World) (hs : s < 8192) : Calls Try.prog 114 [.int .u64 (s : Nat)].toArray w (Ret w (i64 (popF 13 s : Nat))) := by
  have h1 := oc1_lt hs
  have h2 := oc2_lt h1
  have h3 := oc3_lt h2
  have h4 : oc4 (oc3 (oc2 (oc1 s))) < 200000 := by unfold oc4; omega
  have h5 : oc5 (oc4 (oc3 (oc2 (oc1 s)))) < 400000 := by unfold oc5; omega
  have h6 : oc6 (oc5 (oc4 (oc3 (oc2 (oc1 s))))) < 800000 := by unfold oc6; omega
  have hc := oc_popc s hs
  have e1 : oc1 s = _ := rfl
  have e2 : ∀ s, oc2 s = _ := fun _ => rfl
  have q1 := Nat.and_le_left (n := s / 2 ^ 1) (m := 6148914691236517205)
  have q2 := Nat.and_le_left (n := s) (m := 6148914691236517205)
  have q3 := Nat.and_le_left (n := oc1 s / 2 ^ 2) (m := 3689348814741910323)
  have q4 := Nat.and_le_left (n := oc1 s) (m := 3689348814741910323)
  refine fEnter Try.func114 rfl Try.ntmps114 rfl ?_
  refine kSeq ?_
  refine kRegion rfl ?_
  refine lV (yAssign rfl) rfl rfl ?_
  refine lNil ?_
  refine kThen ?_
  refine kSeq ?_
  refine kRegion rfl ?_
  refine lV (yMove rfl) rfl rfl ?_
  refine lV (yShr (b := 1) rfl rfl rfl (by omega)) rfl rfl ?_
  refine lV (yAnd (b := 6148914691236517205) rfl rfl rfl (by omega) (by omega)) rfl rfl ?_
  refine lV (yMove rfl) rfl rfl ?_
  refine lV (yAnd (b := 6148914691236517205) rfl rfl rfl (by omega) (by omega)) rfl rfl ?_
  refine lV (yAddN  rfl rfl rfl (by omega)) rfl rfl ?_
  refine same (t := 8) (u := .int .u64 ((oc1 s : Nat) : Int)) rfl (rfl) ?_
  refine lV (yAssign rfl) rfl rfl ?_
  refine lNil ?_
  refine kThen ?_
  refine kSeq ?_
  refine kRegion rfl ?_
  refine lV (yMove rfl) rfl rfl ?_
  refine lV (yShr (b := 2) rfl rfl rfl (by omega)) rfl rfl ?_
  refine lV (yAnd (b := 3689348814741910323) rfl rfl rfl (by omega) (by omega)) rfl rfl ?_
  refine lV (yMove rfl) rfl rfl ?_
  refine lV (yAnd (b := 3689348814741910323) rfl rfl rfl (by omega) (by omega)) rfl rfl ?_
  refine lV (yAddN  rfl rfl rfl (by omega)) rfl rfl ?_
  refine same (t := 14) (u := .int .u64 ((oc2 (oc1 s) : Nat) : Int)) rfl (rfl) ?_
  refine lV (yAssign rfl) rfl rfl ?_
  refine lNil ?_
  refine kThen ?_
  refine kSeq ?_
  refine kRegion rfl ?_
  refine lV (yMove rfl) rfl rfl ?_
  refine lV (yShr (b := 4) rfl rfl rfl (by omega)) rfl rfl ?_
  refine lV (yMove rfl) rfl rfl ?_
  refine lV (yAddN  rfl rfl rfl (by omega)) rfl rfl ?_
  refine lV (yAnd (b := 1085102592571150095) rfl rfl rfl (by omega) (by omega)) rfl rfl ?_
  refine same (t := 19) (u := .int .u64 ((oc3 (oc2 (oc1 s)) : Nat) : Int)) rfl (rfl) ?_
  refine lV (yAssign rfl) rfl rfl ?_
  refine lNil ?_
  refine kThen ?_
  refine kSeq ?_
  refine kRegion rfl ?_
  refine lV (yMove rfl) rfl rfl ?_
  refine lV (yMove rfl) rfl rfl ?_
  refine lV (yShr (b := 8) rfl rfl rfl (by omega)) rfl rfl ?_
  refine lV (yAddN  rfl rfl rfl (by omega)) rfl rfl ?_
  refine same (t := 23) (u := .int .u64 ((oc4 (oc3 (oc2 (oc1 s))) : Nat) : Int)) rfl (rfl) ?_
  refine lV (yAssign rfl) rfl rfl ?_
  refine lNil ?_
  refine kThen ?_
  refine kSeq ?_
  refine kRegion rfl ?_
  refine lV (yMove rfl) rfl rfl ?_
  refine lV (yMove rfl) rfl rfl ?_
  refine lV (yShr (b := 16) rfl rfl rfl (by omega)) rfl rfl ?_
  refine lV (yAddN  rfl rfl rfl (by omega)) rfl rfl ?_
  refine same (t := 27) (u := .int .u64 ((oc5 (oc4 (oc3 (oc2 (oc1 s)))) : Nat) : Int)) rfl (rfl) ?_
  refine lV (yAssign rfl) rfl rfl ?_
  refine lNil ?_
  refine kThen ?_
  refine kSeq ?_
  refine kRegion rfl ?_
  refine lV (yMove rfl) rfl rfl ?_
  refine lV (yMove rfl) rfl rfl ?_
  refine lV (yShr (b := 32) rfl rfl rfl (by omega)) rfl rfl ?_
  refine lV (yAddN  rfl rfl rfl (by omega)) rfl rfl ?_
  refine same (t := 31) (u := .int .u64 ((oc6 (oc5 (oc4 (oc3 (oc2 (oc1 s))))) : Nat) : Int)) rfl (rfl) ?_
  refine lV (yAssign rfl) rfl rfl ?_
  refine lNil ?_
  refine kThen ?_
  refine kSeq ?_
  refine kRegion rfl ?_
  refine lV (yMove rfl) rfl rfl ?_
  refine lV (yConvInt rfl U174 U3 (conv_ok (by omega))) rfl rfl ?_
  refine lV (yAnd (b := 127) rfl rfl rfl (by omega) (by omega)) rfl rfl ?_
  refine lV (yAssign rfl) rfl rfl ?_
  refine lNil ?_
  refine kThen ?_
  refine kRet ?_
  refine fRet rfl (.t rfl .n) (endRet ?_)
  simp only [packV]; rw [hc]
set_option maxRecDepth 100000 in
theorem ones_any (s : Nat) (w : World) (hs : s < 8192) : Calls Try.prog 103 [.int .u64 (s : Nat)].toArray w (Ret w (i64 (popF 13 s : Nat))) := by
  refine fEnter Try.func103 rfl Try.ntmps103 rfl ?_
  refine kSeq ?_
  refine kRegion rfl ?_
  refine lV (yAssign rfl) rfl rfl ?_
  refine lNil ?_
  refine kThen ?_
  refine kSeq ?_
  refine kIfF rfl ?_
  refine kSkip ?_
  refine kThen ?_
  refine kSeq ?_
  refine kRegion rfl ?_
  refine lV (yMove rfl) rfl rfl ?_
  refine lV (yCall rfl (.c rfl .n) C114 (fun w hw => ones64_any s w hs)) rfl rfl ?_
  refine lV (yAssign rfl) rfl rfl ?_
  refine lNil ?_
  refine kThen ?_
  refine kRet ?_
  refine fRet rfl (.t rfl .n) (endRet ?_)
  rfl

theorem popF_le : ∀ (f s n : Nat), s < 2 ^ n → popF f s ≤ n
  | 0, s, n, _ => by simp [popF]
  | f + 1, s, 0, h => by
    have : s = 0 := by simpa using h
    subst this
    have := popF_le f 0 0 (by simp)
    simp only [popF, Nat.zero_mod, Nat.zero_div]; omega
  | f + 1, s, n + 1, h => by
    have := popF_le f (s / 2) n (by rw [Nat.pow_succ] at h; omega)
    simp only [popF]; omega

/-- What comes of going through all sets, the smaller ones first, those of as many by their numbers. -/
def SetsΦ (F : Nat) (stop : Nat → Bool) : Option Nat → Prop
  | none => ∀ s, s ≤ F → stop s = false
  | some s => s ≤ F ∧ ∀ s', s' ≤ F → (popc s' < popc s ∨ popc s' = popc s ∧ s' < s) → stop s' = false

/-- The first set, in that order, of which something is so. -/
def bestS (stop : Nat → Bool) : Nat → Option Nat
  | 0 => none
  | n + 1 => match bestS stop n with
    | none => if stop n = true then some n else none
    | some b => if stop n = true ∧ popc n < popc b then some n else some b
theorem bestS_spec (stop : Nat → Bool) : ∀ n, match bestS stop n with
    | none => ∀ s, s < n → stop s = false
    | some b => b < n ∧ stop b = true ∧ ∀ s, s < n → stop s = true → popc b < popc s ∨ popc b = popc s ∧ b ≤ s
  | 0 => by simp [bestS]
  | n + 1 => by
    have ih := bestS_spec stop n
    simp only [bestS]
    cases hb : bestS stop n with
    | none =>
      rw [hb] at ih
      simp only at ih ⊢
      by_cases hn : stop n = true
      · rw [if_pos hn]
        refine ⟨by omega, hn, fun s hs hst => ?_⟩
        rcases Nat.lt_or_ge s n with h | h
        · rw [ih s h] at hst; cases hst
        · obtain rfl : s = n := by omega
          exact .inr ⟨rfl, Nat.le_refl _⟩
      · rw [if_neg hn]
        intro s hs
        rcases Nat.lt_or_ge s n with h | h
        · exact ih s h
        · obtain rfl : s = n := by omega
          simpa using hn
    | some b =>
      rw [hb] at ih
      simp only at ih ⊢
      obtain ⟨h1, h2, h3⟩ := ih
      by_cases hn : stop n = true ∧ popc n < popc b
      · rw [if_pos hn]
        refine ⟨by omega, hn.1, fun s hs hst => ?_⟩
        rcases Nat.lt_or_ge s n with h | h
        · have := h3 s h hst; omega
        · obtain rfl : s = n := by omega
          exact .inr ⟨rfl, Nat.le_refl _⟩
      · rw [if_neg hn]
        refine ⟨by omega, h2, fun s hs hst => ?_⟩
        rcases Nat.lt_or_ge s n with h | h
        · exact h3 s h hst
        · obtain rfl : s = n := by omega
          have : ¬ popc s < popc b := fun h => hn ⟨hst, h⟩
          omega
theorem SetsΦ.some_eq {F s : Nat} {stop : Nat → Bool} (h : SetsΦ F stop (some s)) (hs : stop s = true) : bestS stop (F + 1) = some s := by
  have hb := bestS_spec stop (F + 1)
  obtain ⟨h1, h2⟩ := h
  cases hc : bestS stop (F + 1) with
  | none => rw [hc] at hb; have := hb s (by omega); rw [hs] at this; cases this
  | some b =>
    rw [hc] at hb
    obtain ⟨b1, b2, b3⟩ := hb
    have h3 := b3 s (by omega) hs
    have h4 : ¬ (popc b < popc s ∨ popc b = popc s ∧ b < s) := fun h => by have := h2 b (by omega) h; rw [b2] at this; cases this
    congr 1; omega
theorem SetsΦ.none_eq {F : Nat} {stop : Nat → Bool} (h : SetsΦ F stop none) : bestS stop (F + 1) = none := by
  have hb := bestS_spec stop (F + 1)
  cases hc : bestS stop (F + 1) with
  | none => rfl
  | some b =>
    rw [hc] at hb
    have := h b (by omega); rw [hb.2.1] at this; cases this


set_option maxRecDepth 100000 in
theorem size_any (s : Nat) (w : World) (hs : s < 8192) : Calls Try.prog 85 [.int .u64 (s : Nat)].toArray w (Ret w (i64 (popF 13 s : Nat))) := by
  refine fEnter Try.func85 rfl Try.ntmps85 rfl ?_
  refine kSeq ?_
  refine kRegion rfl ?_
  refine lV (yAssign rfl) rfl rfl ?_
  refine lNil ?_
  refine kThen ?_
  refine kSeq ?_
  refine kRegion rfl ?_
  refine lV (yMove rfl) rfl rfl ?_
  refine lV (yCall rfl (.c rfl .n) C103 (fun w hw => ones_any s w hs)) rfl rfl ?_
  refine lV (yAssign rfl) rfl rfl ?_
  refine lNil ?_
  refine kThen ?_
  refine kRet ?_
  refine fRet rfl (.t rfl .n) (endRet ?_)
  rfl

set_option maxRecDepth 100000 in
theorem sets1_any (nb n : Nat) (w : World) (hN : n ≤ 12) (hb : w.heap[nb]? = some (blk [i64 (n : Nat)] 3)) (stop : Nat → Bool) :
    Iter Try.prog 84 [.pointer (some ⟨nb, 0, none⟩)] w (fun s => s ≤ 2 ^ n - 1) (fun s => .int .u64 (s : Nat)) stop (SetsΦ (2 ^ n - 1) stop) := by
  intro l Mf hMf hY
  have hp : 2 ^ n ≤ 2 ^ 12 := Nat.pow_le_pow_right (by omega) hN
  have hp0 : 0 < 2 ^ n := Nat.two_pow_pos _
  refine fEnter Try.func84 rfl Try.ntmps84 rfl ?_
  refine kSeq ?_
  refine kRegion rfl ?_
  refine lV (yLoad1 rfl O3 (cOldB (hb) rfl)) rfl rfl ?_
  refine lV (yAdd rfl rfl (by omega)) rfl rfl ?_
  refine lV (yMove rfl) rfl rfl ?_
  refine lNil ?_
  refine kThen ?_
  refine kBlock ?_
  refine kLoopX (ι := Nat) (fun k => k ≤ n + 1 ∧ ∀ s, s ≤ 2 ^ n - 1 → popc s < k → stop s = false) (fun k => [(7, i64 (k : Nat))]) [(0, _), (1, _), (5, _), (6, _)] (fun k => []) (fun k => []) [] (fun k => n + 1 - k) 0 (⟨Nat.zero_le _, fun s _ h => absurd h (by omega)⟩) rfl (.c rfl .n) (.c rfl (.c rfl (.c rfl (.c rfl .n)))) .n ?_
  rintro k ⟨hk, hok⟩
  refine kSeq ?_
  refine kRegion rfl ?_
  refine lV (yLss rfl rfl) rfl rfl ?_
  refine lNil ?_
  refine kThen ?_
  refine kSeq ?_
  refine split (t := 8) rfl (fun h8 => ?_) (fun h8 => ?_)
  · refine kIfT rfl ?_
    refine kSkip ?_
    refine kThen ?_
    refine kSeq ?_
    refine kBlock ?_
    refine kSeq ?_
    refine kRegion rfl ?_
    refine lV (yMove rfl) rfl rfl ?_
    refine lV (yAssign rfl) rfl rfl ?_
    refine lNil ?_
    refine kThen ?_
    refine kSeq ?_
    refine kRegion rfl ?_
    refine lV (yLoad1 rfl O3 (cOldB (hb) rfl)) rfl rfl ?_
    refine lV (yCall rfl (.c rfl .n) C54 (fun w hw => full_any n w (by omega))) rfl rfl ?_
    refine lV (yAddN (b := 1) rfl rfl rfl (by omega)) rfl rfl ?_
    refine lV (yMove rfl) rfl rfl ?_
    refine lNil ?_
    refine kThen ?_
    refine kBlock ?_
    refine kLoopX (ι := Nat) (fun s => s ≤ 2 ^ n - 1 + 1 ∧ ∀ q, q ≤ 2 ^ n - 1 → popc q = k → q < s → stop q = false) (fun s => [(13, .int .u64 (s : Nat))]) [(0, _), (1, _), (5, _), (6, _), (7, _), (8, _), (9, _), (3, _), (10, _), (11, _), (12, _)] (fun s => []) (fun s => []) [] (fun s => 2 ^ n - 1 + 1 - s) 0 (⟨Nat.zero_le _, fun q _ _ h => absurd h (by omega)⟩) rfl (.c rfl .n) (.c rfl (.c rfl (.c rfl (.c rfl (.c rfl (.c rfl (.c rfl (.c rfl (.c rfl (.c rfl (.c rfl .n))))))))))) .n ?_
    rintro s ⟨hs, hin⟩
    refine kSeq ?_
    refine kRegion rfl ?_
    refine lV (yLss rfl rfl) rfl rfl ?_
    refine lNil ?_
    refine kThen ?_
    refine kSeq ?_
    refine split (t := 14) rfl (fun h14 => ?_) (fun h14 => ?_)
    · refine kIfT rfl ?_
      refine kSkip ?_
      refine kThen ?_
      refine kSeq ?_
      refine kBlock ?_
      refine kSeq ?_
      refine kRegion rfl ?_
      refine lV (yMove rfl) rfl rfl ?_
      refine lV (yAssign rfl) rfl rfl ?_
      refine lNil ?_
      refine kThen ?_
      refine kSeq ?_
      refine kRegion rfl ?_
      refine lV (yMove rfl) rfl rfl ?_
      refine lV (yCall rfl (.c rfl .n) C85 (fun w hw => size_any s w (by omega))) rfl rfl ?_
      refine lV (yMove rfl) rfl rfl ?_
      refine lV (yEql rfl rfl) rfl rfl ?_
      refine lV (yMove rfl) rfl rfl ?_
      refine split (t := 20) rfl (fun h20 => ?_) (fun h20 => ?_)
      · refine lGY rfl rfl rfl (oV (yMove rfl) rfl ?_)
        refine lGY rfl rfl rfl (oV (yMove rfl) rfl ?_)
        refine lGY rfl rfl rfl ?_
        refine eYield rfl (.c rfl .n) (fun w hw => hY w _ hw s (by omega)) (hMf s) (fun hst Lf => ?_) (fun hst => ?_)
        · refine lGY rfl rfl rfl (oV (yNot rfl) rfl ?_)
          refine lV (yPickT rfl rfl) rfl rfl ?_
          refine lNil ?_
          refine kThen ?_
          refine kIfT rfl ?_
          refine kRet ?_
          refine kInR ?_
          refine kThenR ?_
          refine kThenR ?_
          refine kInR ?_
          refine kInR ?_
          refine kThenR ?_
          refine kThenR ?_
          refine kInR ?_
          refine fRet rfl .n ?_
          exact fun w' hw' => ⟨rfl, .inr ⟨s, hst, ⟨by omega, fun q hq hc => by have h24 : popc s = k := (by unfold popc; omega); rcases hc with h | h; (· exact hok q hq (by omega)); exact hin q hq (by omega) h.2⟩, hw'.sub .n⟩⟩
        · refine lGY rfl rfl rfl (oV (yNot rfl) rfl ?_)
          refine lV (yPickT rfl rfl) rfl rfl ?_
          refine lNil ?_
          refine kThen ?_
          refine kIfF rfl ?_
          refine kSkip ?_
          refine kInN ?_
          refine kThen ?_
          refine kRegion rfl ?_
          refine lV (yAddN (b := 1) rfl rfl rfl (by omega)) rfl rfl ?_
          refine lV (yMove rfl) rfl rfl ?_
          refine lNil ?_
          exact kRoundX (s + 1) (⟨by omega, fun q hq hpq hl => by rcases Nat.lt_or_ge q s with h | h; (· exact hin q hq hpq h); (obtain rfl : q = s := (by omega)); first | exact hst | exact absurd (by unfold popc at hpq; rw [hpq]) h20⟩) (by omega) rfl (.c rfl .n) (.c rfl (.c rfl (.c rfl (.c rfl (.c rfl (.c rfl (.c rfl (.c rfl (.c rfl (.c rfl (.c rfl .n))))))))))) .n
      · refine lGN rfl rfl rfl rfl rfl ?_
        refine lGN rfl rfl rfl rfl rfl ?_
        refine lGN rfl rfl rfl rfl rfl ?_
        refine lGN rfl rfl rfl rfl rfl ?_
        refine lV (yPickF rfl rfl) rfl rfl ?_
        refine lNil ?_
        refine kThen ?_
        refine kIfF rfl ?_
        refine kSkip ?_
        refine kInN ?_
        refine kThen ?_
        refine kRegion rfl ?_
        refine lV (yAddN (b := 1) rfl rfl rfl (by omega)) rfl rfl ?_
        refine lV (yMove rfl) rfl rfl ?_
        refine lNil ?_
        exact kRoundX (s + 1) (⟨by omega, fun q hq hpq hl => by rcases Nat.lt_or_ge q s with h | h; (· exact hin q hq hpq h); (obtain rfl : q = s := (by omega)); first | exact hst | exact absurd (by unfold popc at hpq; rw [hpq]) h20⟩) (by omega) rfl (.c rfl .n) (.c rfl (.c rfl (.c rfl (.c rfl (.c rfl (.c rfl (.c rfl (.c rfl (.c rfl (.c rfl (.c rfl .n))))))))))) .n
    · refine kIfF rfl ?_
      refine kExit ?_
      refine kThenX ?_
      refine kThenX ?_
      refine kInX ?_
      refine kInN ?_
      refine kThen ?_
      refine kRegion rfl ?_
      refine lV (yAdd rfl rfl (by omega)) rfl rfl ?_
      refine lV (yMove rfl) rfl rfl ?_
      refine lNil ?_
      exact kRoundX (k + 1) (⟨by omega, fun q hq hpq => by rcases Nat.lt_or_ge (popc q) k with h | h; (· exact hok q hq h); exact hin q hq (by omega) (by omega)⟩) (by omega) rfl (.c rfl .n) (.c rfl (.c rfl (.c rfl (.c rfl .n)))) .n
  · refine kIfF rfl ?_
    refine kExit ?_
    refine kThenX ?_
    refine kThenX ?_
    refine kInX ?_
    refine fEnd rfl .n ?_
    exact fun w' hw' => ⟨rfl, .inl ⟨fun q hq => hok q hq (by have := popF_le 13 q n (by omega); unfold popc; omega), hw'.sub .n⟩⟩
end Go.Proofs.Ytiaaidcdoenloaa
