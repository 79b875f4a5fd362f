/-
  Walks: all sets of plates that are of use; the first list.
-/
import Derived.Test.YtdpeifbejeflhaaVj
namespace Go.Proofs.Ytdpeifbejeflhaa
open ZW

theorem popF_le : ∀ (f s n : Nat), s < 2 ^ n → popF f s ≤ n
  | 0, s, n, _ => by simp [popF]
  | f + 1, s, 0, h => by
    have : s = 0 := by simpa using h
    subst this
    have := popF_le f 0 0 (by simp)
    simp only [popF, Nat.zero_mod, Nat.zero_div]; omega
  | f + 1, s, n + 1, h => by
    have := popF_le f (s / 2) n (by rw [Nat.pow_succ] at h; omega)
    simp only [popF]; omega

/-- What comes of going through all sets, the smaller ones first, those of as many by their numbers. -/
def SetsΦ (F : Nat) (stop : Nat → Bool) : Option Nat → Prop
  | none => ∀ s, s ≤ F → stop s = false
  | some s => s ≤ F ∧ ∀ s', s' ≤ F → (popc s' < popc s ∨ popc s' = popc s ∧ s' < s) → stop s' = false

theorem popF_sub : ∀ (f a b : Nat), (∀ i, a.testBit i = true → b.testBit i = true) → popF f a ≤ popF f b
  | 0, _, _, _ => Nat.le_refl _
  | f + 1, a, b, h => by
    have ih := popF_sub f (a / 2) (b / 2) fun i hi => by
      have := h (i + 1)
      rw [Nat.testBit_succ, Nat.testBit_succ] at this
      exact this hi
    have h0 := h 0
    rw [Nat.testBit_zero, Nat.testBit_zero] at h0
    simp only [decide_eq_true_eq] at h0
    simp only [popF]
    have := Nat.mod_two_eq_zero_or_one a
    have := Nat.mod_two_eq_zero_or_one b
    omega
theorem less_bit (a b i : Nat) : (less a b).testBit i = (a.testBit i && !b.testBit i) := by
  unfold less
  rw [Nat.testBit_xor, Nat.testBit_and]
  cases a.testBit i <;> cases b.testBit i <;> rfl
/-- The first set, in that order, of which something is so. -/
def bestS (stop : Nat → Bool) : Nat → Option Nat
  | 0 => none
  | n + 1 => match bestS stop n with
    | none => if stop n = true then some n else none
    | some b => if stop n = true ∧ popc n < popc b then some n else some b
theorem bestS_spec (stop : Nat → Bool) : ∀ n, match bestS stop n with
    | none => ∀ s, s < n → stop s = false
    | some b => b < n ∧ stop b = true ∧ ∀ s, s < n → stop s = true → popc b < popc s ∨ popc b = popc s ∧ b ≤ s
  | 0 => by simp [bestS]
  | n + 1 => by
    have ih := bestS_spec stop n
    simp only [bestS]
    cases hb : bestS stop n with
    | none =>
      rw [hb] at ih
      simp only at ih ⊢
      by_cases hn : stop n = true
      · rw [if_pos hn]
        refine ⟨by omega, hn, fun s hs hst => ?_⟩
        rcases Nat.lt_or_ge s n with h | h
        · rw [ih s h] at hst; cases hst
        · obtain rfl : s = n := by omega
          exact .inr ⟨rfl, Nat.le_refl _⟩
      · rw [if_neg hn]
        intro s hs
        rcases Nat.lt_or_ge s n with h | h
        · exact ih s h
        · obtain rfl : s = n := by omega
          simpa using hn
    | some b =>
      rw [hb] at ih
      simp only at ih ⊢
      obtain ⟨h1, h2, h3⟩ := ih
      by_cases hn : stop n = true ∧ popc n < popc b
      · rw [if_pos hn]
        refine ⟨by omega, hn.1, fun s hs hst => ?_⟩
        rcases Nat.lt_or_ge s n with h | h
        · have := h3 s h hst; omega
        · obtain rfl : s = n := by omega
          exact .inr ⟨rfl, Nat.le_refl _⟩
      · rw [if_neg hn]
        refine ⟨by omega, h2, fun s hs hst => ?_⟩
        rcases Nat.lt_or_ge s n with h | h
        · exact h3 s h hst
        · obtain rfl : s = n := by omega
          have : ¬ popc s < popc b := fun h => hn ⟨hst, h⟩
          omega
theorem SetsΦ.some_eq {F s : Nat} {stop : Nat → Bool} (h : SetsΦ F stop (some s)) (hs : stop s = true) : bestS stop (F + 1) = some s := by
  have hb := bestS_spec stop (F + 1)
  obtain ⟨h1, h2⟩ := h
  cases hc : bestS stop (F + 1) with
  | none => rw [hc] at hb; have := hb s (by omega); rw [hs] at this; cases this
  | some b =>
    rw [hc] at hb
    obtain ⟨b1, b2, b3⟩ := hb
    have h3 := b3 s (by omega) hs
    have h4 : ¬ (popc b < popc s ∨ popc b = popc s ∧ b < s) := fun h => by have := h2 b (by omega) h; rw [b2] at this; cases this
    congr 1; omega
theorem SetsΦ.none_eq {F : Nat} {stop : Nat → Bool} (h : SetsΦ F stop none) : bestS stop (F + 1) = none := by
  have hb := bestS_spec stop (F + 1)
  cases hc : bestS stop (F + 1) with
  | none => rfl
  | some b =>
    rw [hc] at hb
    have := h b (by omega); rw [hb.2.1] at this; cases this


theorem popF_self_le : ∀ (f a b : Nat), (∀ i, a.testBit i = true → b.testBit i = true) → popF f a ≤ popF f b := popF_sub
def subS (a b : Nat) : Prop := less a b = 0
instance (a b : Nat) : Decidable (subS a b) := inferInstanceAs (Decidable (_ = _))
theorem subS_iff {a b : Nat} : subS a b ↔ ∀ i, a.testBit i = true → b.testBit i = true := by
  constructor
  · intro h i hi
    have h1 := less_bit a b i
    rw [show less a b = 0 from h, Nat.zero_testBit, hi] at h1
    simpa using h1
  · intro h
    refine Nat.eq_of_testBit_eq fun i => ?_
    rw [less_bit, Nat.zero_testBit]
    cases ha : a.testBit i with
    | false => rfl
    | true => rw [h i ha]; rfl
abbrev fullF (f : Fld) : Nat := 2 ^ f.ps.length - 1
/-- A set of plates that are of use, and a list. -/
def goodB (f : Fld) (s : Nat) : Bool := decide (subS s (useS f)) && listB f s
theorem fullF_lt {f : Fld} (hF : FldOk f) : fullF f < 8192 := by
  have hp : 2 ^ f.ps.length ≤ 2 ^ 12 := Nat.pow_le_pow_right (by omega) hF.l
  unfold fullF; omega
theorem useS_lt (f : Fld) (hF : FldOk f) : useS f < 8192 := Nat.lt_of_lt_of_le (setB_lt _ _) (Nat.pow_le_pow_right (by omega) (show f.ps.length ≤ 13 by have := hF.l; omega))
theorem useS_full (f : Fld) : useS f ≤ fullF f := by
  have := setB_lt (useB f) f.ps.length
  show setB (useB f) f.ps.length ≤ 2 ^ f.ps.length - 1
  omega
section
variable (y : Option Addr × Nat) (f : Fld) (nm nf : Nat) (es : PMap)
set_option maxRecDepth 100000 in
theorem sets1_any (nb : Nat) (stop : Nat → Bool) (w : World) (hk : InK w nf nm es y f) (hF : FldOk f) (hb : w.heap[nb]? = some (blk [.pointer (some ⟨nf, 0, none⟩)] 69)) :
    Iter Try.prog 45 [.pointer (some ⟨nb, 0, none⟩)] w (fun s => s ≤ fullF f ∧ subS s (useS f)) (fun s => u64 s) stop (fun o => SetsΦ (fullF f) (fun s => decide (subS s (useS f)) && stop s) o ∧ ∀ s, o = some s → subS s (useS f)) := by
  intro l Mf hMf hY
  have hb8 := hk.b
  have hl := hF.l
  have hfl := fullF_lt hF
  have hul := useS_lt f hF
  have hp0 : 0 < 2 ^ f.ps.length := Nat.two_pow_pos _
  have hpu := popF_le 13 (useS f) 13 (by omega)
  refine fEnter Try.func45 rfl Try.ntmps45 rfl ?_
  refine kSeq ?_
  refine kRegion rfl ?_
  refine lV (yLoad1 rfl O69 (cOldB (hb) rfl)) rfl rfl ?_
  refine lV (yNilCheckP rfl) rfl rfl ?_
  refine lV (yFieldAddr rfl F81_1) rfl rfl ?_
  refine lV (yLoad1 rfl O71 (cOldB (hb8) rfl)) rfl rfl ?_
  refine lV (yCall rfl (.c rfl .n) C46 (fun w hw => ksize_any (useS f) w hul)) rfl rfl ?_
  refine lV (yAdd rfl rfl (by omega)) rfl rfl ?_
  refine lV (yMove rfl) rfl rfl ?_
  refine lNil ?_
  refine kThen ?_
  refine kBlock ?_
  refine kLoopX (ι := Nat) (fun k => k ≤ popF 13 (useS f) + 1 ∧ ∀ s, s ≤ fullF f → subS s (useS f) → popc s < k → stop s = false) (fun k => [(11, i64 (k : Nat))]) [(0, _), (1, _), (5, _), (6, _), (7, _), (8, _), (9, _), (10, _)] (fun k => []) (fun k => []) [] (fun k => popF 13 (useS f) + 1 - k) 0 (⟨Nat.zero_le _, fun s _ _ h => absurd h (by omega)⟩) rfl (.c rfl .n) (.c rfl (.c rfl (.c rfl (.c rfl (.c rfl (.c rfl (.c rfl (.c rfl .n)))))))) .n ?_
  rintro k ⟨hk2, hok⟩
  refine kSeq ?_
  refine kRegion rfl ?_
  refine lV (yLss rfl rfl) rfl rfl ?_
  refine lNil ?_
  refine kThen ?_
  refine kSeq ?_
  refine split (t := 12) rfl (fun h12 => ?_) (fun h12 => ?_)
  · refine kIfT rfl ?_
    refine kSkip ?_
    refine kThen ?_
    refine kSeq ?_
    refine kBlock ?_
    refine kSeq ?_
    refine kRegion rfl ?_
    refine lV (yMove rfl) rfl rfl ?_
    refine lV (yAssign rfl) rfl rfl ?_
    refine lNil ?_
    refine kThen ?_
    refine kScope ?_
    refine kSeq ?_
    refine kLabel ?_
    refine kThen ?_
    refine kSeq ?_
    refine kRegion rfl ?_
    refine lV (yLoad1 rfl O69 (cOldB (hb) rfl)) rfl rfl ?_
    refine lV (yCall rfl (.c rfl .n) C47 (fun w hw => all_any y f (useS f) nm nf w (Eff.old' hw hb8) hl)) rfl rfl ?_
    refine same (t := 15) (u := u64 (fullF f)) rfl (rfl) ?_
    refine lV (yAddN (b := 1) rfl rfl rfl (by omega)) rfl rfl ?_
    refine lV (yMove rfl) rfl rfl ?_
    refine lNil ?_
    refine kThen ?_
    refine kBlock ?_
    refine kLoopX (ι := Nat) (fun s => s ≤ fullF f + 1 ∧ ∀ q, q ≤ fullF f → subS q (useS f) → popc q = k → q < s → stop q = false) (fun s => [(17, u64 s)]) [(0, _), (1, _), (5, _), (6, _), (7, _), (8, _), (9, _), (10, _), (11, _), (12, _), (13, _), (3, _), (14, _), (15, _), (16, _)] (fun s => []) (fun s => []) [] (fun s => fullF f + 1 - s) 0 (⟨Nat.zero_le _, fun q _ _ _ h => absurd h (by omega)⟩) rfl (.c rfl .n) (.c rfl (.c rfl (.c rfl (.c rfl (.c rfl (.c rfl (.c rfl (.c rfl (.c rfl (.c rfl (.c rfl (.c rfl (.c rfl (.c rfl (.c rfl .n))))))))))))))) .n ?_
    rintro s ⟨hs, hin⟩
    refine kSeq ?_
    refine kRegion rfl ?_
    refine lV (yLss rfl rfl) rfl rfl ?_
    refine lNil ?_
    refine kThen ?_
    refine kSeq ?_
    refine split (t := 18) rfl (fun h18 => ?_) (fun h18 => ?_)
    · refine kIfT rfl ?_
      refine kSkip ?_
      refine kThen ?_
      refine kSeq ?_
      refine kBlock ?_
      refine kSeq ?_
      refine kRegion rfl ?_
      refine lV (yMove rfl) rfl rfl ?_
      refine lV (yAssign rfl) rfl rfl ?_
      refine lNil ?_
      refine kThen ?_
      refine kSeq ?_
      refine kSeq ?_
      refine kRegion rfl ?_
      refine lV (yMove rfl) rfl rfl ?_
      refine lV (yLoad1 rfl O69 (cOldB (hb) rfl)) rfl rfl ?_
      refine lV (yNilCheckP rfl) rfl rfl ?_
      refine lV (yFieldAddr rfl F81_1) rfl rfl ?_
      refine lV (yLoad1 rfl O71 (cOldB (hb8) rfl)) rfl rfl ?_
      refine lV (yAndNot rfl rfl rfl (by omega) (by omega)) rfl rfl ?_
      refine lV (yNeq rfl rfl) rfl rfl ?_
      refine split (t := 26) rfl (fun h26 => ?_) (fun h26 => ?_)
      · have hnsub : ¬ subS s (useS f) := fun h => h26 (by rw [show less s (useS f) = 0 from h]; rfl)
        refine lV (yMove rfl) rfl rfl ?_
        refine lGN rfl rfl rfl rfl rfl ?_
        refine lGN rfl rfl rfl rfl rfl ?_
        refine lGN rfl rfl rfl rfl rfl ?_
        refine lGN rfl rfl rfl rfl rfl ?_
        refine lV (yPickT rfl rfl) rfl rfl ?_
        refine lNil ?_
        refine kThen ?_
        refine kIfT rfl ?_
        refine kExit ?_
        refine kThenX ?_
        refine kInX ?_
        refine kThen ?_
        refine kRegion rfl ?_
        refine lV (yAddN (b := 1) rfl rfl rfl (by omega)) rfl rfl ?_
        refine lV (yMove rfl) rfl rfl ?_
        refine lNil ?_
        exact kRoundX (s + 1) (⟨by omega, fun q hq hqs hpq hl => by rcases Nat.lt_or_ge q s with h | h; (· exact hin q hq hqs hpq h); (obtain rfl : q = s := (by omega)); first | exact hst | exact absurd hqs hnsub | exact absurd (show ((popF 13 q : Nat) : Int) = (k : Int) by unfold popc at hpq; omega) h31⟩) (by omega) rfl (.c rfl .n) (.c rfl (.c rfl (.c rfl (.c rfl (.c rfl (.c rfl (.c rfl (.c rfl (.c rfl (.c rfl (.c rfl (.c rfl (.c rfl (.c rfl (.c rfl .n))))))))))))))) .n
      · have hsub : subS s (useS f) := by unfold subS; omega
        refine lV (yMove rfl) rfl rfl ?_
        refine lGY rfl rfl rfl (oV (yMove rfl) rfl ?_)
        refine lGY rfl rfl rfl (oV (yCall rfl (.c rfl .n) C46 (fun w hw => ksize_any s w (by omega))) rfl ?_)
        refine lGY rfl rfl rfl (oV (yMove rfl) rfl ?_)
        refine lGY rfl rfl rfl (oV (yNeq rfl rfl) rfl ?_)
        refine split (t := 31) rfl (fun h31 => ?_) (fun h31 => ?_)
        · refine lV (yPickF rfl rfl) rfl rfl ?_
          refine lNil ?_
          refine kThen ?_
          refine kIfT rfl ?_
          refine kExit ?_
          refine kThenX ?_
          refine kInX ?_
          refine kThen ?_
          refine kRegion rfl ?_
          refine lV (yAddN (b := 1) rfl rfl rfl (by omega)) rfl rfl ?_
          refine lV (yMove rfl) rfl rfl ?_
          refine lNil ?_
          exact kRoundX (s + 1) (⟨by omega, fun q hq hqs hpq hl => by rcases Nat.lt_or_ge q s with h | h; (· exact hin q hq hqs hpq h); (obtain rfl : q = s := (by omega)); first | exact hst | exact absurd hqs hnsub | exact absurd (show ((popF 13 q : Nat) : Int) = (k : Int) by unfold popc at hpq; omega) h31⟩) (by omega) rfl (.c rfl .n) (.c rfl (.c rfl (.c rfl (.c rfl (.c rfl (.c rfl (.c rfl (.c rfl (.c rfl (.c rfl (.c rfl (.c rfl (.c rfl (.c rfl (.c rfl .n))))))))))))))) .n
        · refine lV (yPickF rfl rfl) rfl rfl ?_
          refine lNil ?_
          refine kThen ?_
          refine kIfF rfl ?_
          refine kSkip ?_
          refine kThen ?_
          refine kSeq ?_
          refine kRegion rfl ?_
          refine lV (yMove rfl) rfl rfl ?_
          refine lV (yMove rfl) rfl rfl ?_
          refine lE rfl ?_
          refine eYield rfl (.c rfl .n) (fun w hw => hY w _ hw s ⟨by omega, hsub⟩) (hMf s) (fun hst Lf => ?_) (fun hst => ?_)
          · refine lV (yNot rfl) rfl rfl ?_
            refine lNil ?_
            refine kThen ?_
            refine kIfT rfl ?_
            refine kRet ?_
            refine kInR ?_
            refine kThenR ?_
            refine kThenR ?_
            refine kInR ?_
            refine kScR ?_
            refine kInR ?_
            refine kThenR ?_
            refine kThenR ?_
            refine kInR ?_
            refine fRet rfl .n ?_
            exact fun w' hw' => ⟨rfl, .inr ⟨s, hst, ⟨⟨by omega, fun q hq hc => by
              dsimp only
              by_cases hqs : subS q (useS f)
              · have h34 : popc s = k := (by unfold popc; omega)
                rw [decide_eq_true hqs, Bool.true_and]
                rcases hc with h | h
                · exact hok q hq hqs (by omega)
                · exact hin q hq hqs (by omega) h.2
              · rw [decide_eq_false hqs]; rfl⟩, fun q hq => by cases hq; exact hsub⟩, hw'.sub .n⟩⟩
          · refine lV (yNot rfl) rfl rfl ?_
            refine lNil ?_
            refine kThen ?_
            refine kIfF rfl ?_
            refine kSkip ?_
            refine kInN ?_
            refine kThen ?_
            refine kRegion rfl ?_
            refine lV (yAddN (b := 1) rfl rfl rfl (by omega)) rfl rfl ?_
            refine lV (yMove rfl) rfl rfl ?_
            refine lNil ?_
            exact kRoundX (s + 1) (⟨by omega, fun q hq hqs hpq hl => by rcases Nat.lt_or_ge q s with h | h; (· exact hin q hq hqs hpq h); (obtain rfl : q = s := (by omega)); first | exact hst | exact absurd hqs hnsub | exact absurd (show ((popF 13 q : Nat) : Int) = (k : Int) by unfold popc at hpq; omega) h31⟩) (by omega) rfl (.c rfl .n) (.c rfl (.c rfl (.c rfl (.c rfl (.c rfl (.c rfl (.c rfl (.c rfl (.c rfl (.c rfl (.c rfl (.c rfl (.c rfl (.c rfl (.c rfl .n))))))))))))))) .n
    · refine kIfF rfl ?_
      refine kExit ?_
      refine kThenX ?_
      refine kThenX ?_
      refine kInX ?_
      refine kScN ?_
      refine kInN ?_
      refine kThen ?_
      refine kRegion rfl ?_
      refine lV (yAdd rfl rfl (by omega)) rfl rfl ?_
      refine lV (yMove rfl) rfl rfl ?_
      refine lNil ?_
      exact kRoundX (k + 1) (⟨by omega, fun q hq hqs hpq => by rcases Nat.lt_or_ge (popc q) k with h | h; (· exact hok q hq hqs h); exact hin q hq hqs (by omega) (by omega)⟩) (by omega) rfl (.c rfl .n) (.c rfl (.c rfl (.c rfl (.c rfl (.c rfl (.c rfl (.c rfl (.c rfl .n)))))))) .n
  · refine kIfF rfl ?_
    refine kExit ?_
    refine kThenX ?_
    refine kThenX ?_
    refine kInX ?_
    refine fEnd rfl .n ?_
    exact fun w' hw' => ⟨rfl, .inl ⟨⟨fun q hq => by
      dsimp only
      by_cases hqs : subS q (useS f)
      · rw [decide_eq_true hqs, Bool.true_and]
        exact hok q hq hqs (by have := popF_sub 13 q (useS f) (subS_iff.1 hqs); unfold popc; omega)
      · rw [decide_eq_false hqs]; rfl, fun q hq => by cases hq⟩, hw'.sub .n⟩⟩
set_option maxRecDepth 100000 in
theorem ksets_any (w : World) : Calls Try.prog 25 [.pointer (some ⟨nf, 0, none⟩)].toArray w
    (RetX w (fun _ : Nat => True) (fun nb => .func (.func 45) [].toArray [.pointer (some ⟨nb, 0, none⟩)].toArray) (fun _ => []) (fun nb => [(nb, blk [.pointer (some ⟨nf, 0, none⟩)] 69)])) := by
  refine fEnter Try.func25 rfl Try.ntmps25 rfl ?_
  refine kSeq ?_
  refine kRegion rfl ?_
  refine lE rfl ?_
  refine eBox1 rfl rfl fun n1 => ?_
  refine lV (yAssign rfl) rfl rfl ?_
  refine lNil ?_
  refine kThen ?_
  refine kSeq ?_
  refine kRegion rfl ?_
  refine lV (yMakeFunc .n (.c rfl .n)) rfl rfl ?_
  refine lV (yAssign rfl) rfl rfl ?_
  refine lNil ?_
  refine kThen ?_
  refine kRet ?_
  refine fRet rfl (.t rfl .n) ?_
  exact endX n1 trivial rfl rfl .r
/-- What reports a list lies there. -/
structure InL (w : World) (nf n3 n1 : Nat) (f : Fld) (g : Own) (ks : List Nat) : Prop where
  a : w.heap[n1]? = some (blk [.pointer (some ⟨nf, 0, none⟩)] 69)
  b : w.heap[n3]? = some (blk [osV g (ks.map rowU).length] 108)
  s : SlE w (osA g) ks.length 1 (fun i => rowU (ks.getD i 0))
  m : ∀ k, k ∈ ks ↔ ∃ i, i < plN f ∧ atI f i = k
  l : ks.length ≤ 1089
theorem InL.eff {w w' : World} {nf n3 n1 : Nat} {f : Fld} {g : Own} {ks : List Nat} {L : Heap} (h : InL w nf n3 n1 f g ks) (he : Eff w [] L w') : InL w' nf n3 n1 f g ks := ⟨Eff.old' he h.a, Eff.old' he h.b, h.s.eff0 he, h.m, h.l⟩
theorem list_call (n3 n1 s : Nat) (g : Own) (ks : List Nat) (w : World) (hk : InK w nf nm es y f) (hL : InL w nf n3 n1 f g ks) (hF : FldOk f) (hG : f.times = 1 ∨ 1 ≤ f.gap) (hs : s < 8192) :
    Calls Try.prog 49 [u64 s, .pointer (some ⟨n3, 0, none⟩), .pointer (some ⟨n1, 0, none⟩)].toArray w (Ret w (.bool (listB f s))) := by
  have hb := hL.b
  rw [List.length_map] at hb
  exact isList1_any y f nm nf es n1 n3 s _ (osA g) ks w hk hF hG hL.a hb hL.s hL.m hL.l hs
set_option maxRecDepth 100000 in
set_option maxHeartbeats 2000000 in
theorem first_any (nb n3 n1 : Nat) (g : Own) (ks : List Nat) (w : World) (hk : InK w nf nm es y f) (hL : InL w nf n3 n1 f g ks) (hF : FldOk f) (hG : f.times = 1 ∨ 1 ≤ f.gap) (hb : w.heap[nb]? = some (blk [.pointer (some ⟨nf, 0, none⟩)] 69)) :
    Calls Try.prog 24 [.func (.func 45) [].toArray [.pointer (some ⟨nb, 0, none⟩)].toArray, .func (.func 49) [].toArray [.pointer (some ⟨n3, 0, none⟩), .pointer (some ⟨n1, 0, none⟩)].toArray].toArray w
      (fun e w' => (∃ s, goodB f s = true ∧ SetsΦ (fullF f) (goodB f) (some s) ∧ Ret w (u64 s) e w') ∨ (SetsΦ (fullF f) (goodB f) none ∧ Pan w (kfailV 4) e w')) := by
  have hfl := fullF_lt hF
  refine fEnter Try.func24 rfl Try.ntmps24 rfl ?_
  refine kSeq ?_
  refine kRegion rfl ?_
  refine lE rfl ?_
  refine eBox1 rfl rfl fun nq => ?_
  refine lE rfl ?_
  refine eAlloc Z71 fun n4 => ?_
  refine lNil ?_
  refine kThen ?_
  refine kSeq ?_
  refine kSeq ?_
  refine kRegion rfl ?_
  refine lV (yMove rfl) rfl rfl ?_
  refine lNil ?_
  refine kThen ?_
  refine kBlock ?_
  refine kRange (α := Nat) (fun s => s ≤ fullF f ∧ subS s (useS f)) (fun s => u64 s) (listB f) (fun o => SetsΦ (fullF f) (goodB f) o ∧ ∀ s, o = some s → subS s (useS f)) [(n4, _), (nq, _)] (fun s => [(n4, blk [u64 s] 71), (nq, blk [.func (.func 49) [].toArray [.pointer (some ⟨n3, 0, none⟩), .pointer (some ⟨n1, 0, none⟩)].toArray] 76)]) rfl C45 rfl (.c 0 rfl (.c 0 rfl .n)) (fun _ => rfl) (fun w hw => sets1_any y f nm nf es nb (listB f) w (hk.eff hw) hF (Eff.old' hw hb)) ?_ ?_ ?_
  · intro l r w' s hs hr hin hE
    refine kRegion rfl ?_
    refine lV (yAssign rfl) rfl rfl ?_
    refine lNil ?_
    refine kThen ?_
    refine rBegin hr.1 ?_
    refine kBlock ?_
    refine kSeq ?_
    refine kRegion rfl ?_
    refine lV (yLoad1 rfl O76 (cOwn 2 rfl rfl)) rfl rfl ?_
    refine lV (yMove rfl) rfl rfl ?_
    refine lV (yCall rfl (.c rfl .n) C49 (fun w hw => list_call y f nm nf es n3 n1 s g ks w (hk.eff (hin _ _ _ hw)) (hL.eff (hin _ _ _ hw)) hF hG (by have := hs.1; omega))) rfl rfl ?_
    refine lNil ?_
    refine kThen ?_
    refine splitB (t := 10) rfl (fun h10 => ?_) (fun h10 => ?_)
    · refine kIfT rfl ?_
      refine kSeq ?_
      refine kRegion rfl ?_
      refine lV (yMove rfl) rfl rfl ?_
      refine lE rfl ?_
      refine eStoreM 1 rfl rfl rfl rfl K71 rfl (rfl) ?_
      refine lNil ?_
      refine kThen ?_
      refine kRet ?_
      refine kInR ?_
      rw [show listB f s = true from h10]
      exact rRet
    · refine kIfF rfl ?_
      refine kSkip ?_
      refine kInN ?_
      rw [show listB f s = false from h10]
      exact rNormal hr hE
  · intro hΦ r l o
    refine kInN ?_
    refine kThen ?_
    refine kRegion rfl ?_
    refine lV (yBuild (.c rfl .n) (fun w => B100_0 w)) rfl rfl ?_
    refine lV (yMakeInterface rfl I100) rfl rfl ?_
    refine lE rfl ?_
    refine ePanic rfl ?_
    refine fMarkP 1 rfl ?_
    exact fPan fun w' hw' => .inr ⟨hΦ.1, endPan rfl w' hw'⟩
  · intro s hst hΦ r l o
    refine kInR ?_
    refine kThenR ?_
    refine fMark 1 rfl (.inl rfl) ?_
    refine fRet rfl (.c1 rfl O71 (cOwn 2 rfl rfl) .n) ?_
    exact fun w' hw' => .inl ⟨s, by unfold goodB; rw [decide_eq_true (hΦ.2 s rfl), hst]; rfl, hΦ.1, endRet rfl w' hw'⟩
end
end Go.Proofs.Ytdpeifbejeflhaa
