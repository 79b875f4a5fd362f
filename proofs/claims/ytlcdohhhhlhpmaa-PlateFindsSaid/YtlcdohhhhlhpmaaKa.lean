/-
  Walks: the stars that clash, and those that must be wrong, as the document tries all sets.
-/
import Derived.Test.YtlcdohhhhlhpmaaJi
namespace Go.Proofs.Ytlcdohhhhlhpmaa
open ZW

/-- The least of the smallest sets so far of which something is so. -/
structure BestC (isB : Nat → Prop) (stars b t : Nat) : Prop where
  of : b = 0 ∨ (b < t ∧ subS b stars ∧ isB b)
  all : ∀ x, 0 < x → x < t → subS x stars → isB x → b ≠ 0 ∧ (popc b < popc x ∨ popc b = popc x ∧ b ≤ x)
theorem BestC.step {isB : Nat → Prop} {stars b t : Nat} (h : BestC isB stars b t) (ht : 0 < t) : (subS t stars ∧ (b = 0 ∨ popc t < popc b) ∧ isB t → BestC isB stars t (t + 1)) ∧ (¬ (subS t stars ∧ (b = 0 ∨ popc t < popc b) ∧ isB t) → BestC isB stars b (t + 1)) := by
  constructor
  · rintro ⟨h1, h2, h3⟩
    refine ⟨.inr ⟨by omega, h1, h3⟩, fun x hx hxt hs hb => ⟨by omega, ?_⟩⟩
    rcases Nat.lt_or_ge x t with h4 | h4
    · have h5 := h.all x hx h4 hs hb
      have h6 := h2.resolve_left h5.1
      omega
    · obtain rfl : x = t := by omega
      omega
  · intro hn
    refine ⟨?_, fun x hx hxt hs hb => ?_⟩
    · rcases h.of with h1 | h1
      · exact .inl h1
      · exact .inr ⟨by omega, h1.2⟩
    · rcases Nat.lt_or_ge x t with h4 | h4
      · exact h.all x hx h4 hs hb
      · obtain rfl : x = t := by omega
        have hb0 : b ≠ 0 := fun h0 => hn ⟨hs, .inl h0, hb⟩
        have hp : ¬ popc x < popc b := fun h1 => hn ⟨hs, .inr h1, hb⟩
        have hlt := (h.of.resolve_left hb0).1
        exact ⟨hb0, by omega⟩
theorem and_sub {t k : Nat} : t &&& k = t ↔ subS t k := by
  constructor
  · intro h i hi
    rw [← h, Nat.testBit_and, Bool.and_eq_true] at hi
    exact hi.2
  · intro h
    refine Nat.eq_of_testBit_eq fun i => ?_
    rw [Nat.testBit_and]
    cases hb : t.testBit i with
    | false => rfl
    | true => rw [h i hb]; rfl
theorem clash_best {p : Plt} (hp : PltOk p) {b : Nat} (h : BestC (fun x => scalesP p x = []) (knownP p) b (2 ^ p.st.length)) : clashE p = ((b : Int), 0) := by
  have hlt := setOk_lt (known_ok p) hp.n
  obtain ⟨c, e, h1, h2⟩ := clash_spec hp
  rw [e]
  have hb : ∀ x, subS x (knownP p) → x < 2 ^ p.st.length := fun x hx => Nat.lt_pow_two_of_testBit _ fun i hi => by
    cases hb : x.testBit i with
    | false => rfl
    | true => have := (known_ok p i (hx i hb)).1; omega
  have : c = b := by
    rcases h2 with ⟨h3, h4⟩ | ⟨h3, h4, h5, h6⟩
    · rcases h.of with h7 | ⟨_, h7, h8⟩
      · omega
      · exact absurd h8 (scales_less h4 h7)
    · have h7 := h.all c (by omega) (hb c h1) h1 h4
      have h8 := h.of.resolve_left h7.1
      have h9 := h6 b h8.2.1 (pop_pos (subS_lt h8.2.1 hlt) h7.1) h8.2.2
      omega
  rw [this]
set_option maxRecDepth 100000 in
set_option maxHeartbeats 4000000 in
theorem rclash_bad (y : Option Addr × Nat) (p : Plt) (w : World) (hm : InP w y p) (hL : p.st.length ≤ 30) (hp : ¬ PltOk p) : Calls Try.prog 27 [.agg (pltC y p).toArray].toArray w (Ret w (outI (clashE p))) := by
  have e : clashE p = (0, 1) := by unfold clashE; rw [if_pos hp]
  rw [e]
  refine fEnter Try.func27 rfl Try.ntmps27 rfl ?_
  refine kSeq ?_
  refine kRegion rfl ?_
  refine lE rfl ?_
  refine eBoxA rfl fun n1 => ?_
  refine lV (yAssign rfl) rfl rfl ?_
  refine lV (yAssign rfl) rfl rfl ?_
  refine lNil ?_
  refine kThen ?_
  refine kSeq ?_
  refine kSeq ?_
  refine kRegion rfl ?_
  refine lV (yLoadA (vs := [_, _, _]) rfl A26 (cOwn 0 rfl rfl)) rfl rfl ?_
  refine lV (yCall rfl (.c rfl .n) C23 (fun w hw => rplate_any y p w (hm.eff0 hw) (by omega))) rfl rfl ?_
  refine knownB (t := 7) (c := false) rfl (decide_eq_false hp) ?_
  refine lV (yNot rfl) rfl rfl ?_
  refine lNil ?_
  refine kThen ?_
  refine kIfT rfl ?_
  refine kSeq ?_
  refine kRegion rfl ?_
  refine lV (yAssign rfl) rfl rfl ?_
  refine lV (yAssign rfl) rfl rfl ?_
  refine lNil ?_
  refine kThen ?_
  refine kRet ?_
  refine kThenR ?_
  refine fRet rfl (.t rfl (.t rfl .n)) (endRet ?_)
  rfl
set_option maxRecDepth 100000 in
set_option maxHeartbeats 8000000 in
theorem rclash_ok (y : Option Addr × Nat) (p : Plt) (w : World) (hm : InP w y p) (hp : PltOk p) : Calls Try.prog 27 [.agg (pltC y p).toArray].toArray w (Ret w (outI (clashE p))) := by
  have hl := hp.n
  have hlt := setOk_lt (known_ok p) hl
  have hpw : 2 ^ p.st.length ≤ 2 ^ 10 := Nat.pow_le_pow_right (by omega) hl
  have hp0 : 0 < 2 ^ p.st.length := Nat.two_pow_pos _
  refine fEnter Try.func27 rfl Try.ntmps27 rfl ?_
  refine kSeq ?_
  refine kRegion rfl ?_
  refine lE rfl ?_
  refine eBoxA rfl fun n1 => ?_
  refine lV (yAssign rfl) rfl rfl ?_
  refine lV (yAssign rfl) rfl rfl ?_
  refine lNil ?_
  refine kThen ?_
  refine kSeq ?_
  refine kSeq ?_
  refine kRegion rfl ?_
  refine lV (yLoadA (vs := [_, _, _]) rfl A26 (cOwn 0 rfl rfl)) rfl rfl ?_
  refine lV (yCall rfl (.c rfl .n) C23 (fun w hw => rplate_any y p w (hm.eff0 hw) (by omega))) rfl rfl ?_
  refine knownB (t := 7) (c := true) rfl (decide_eq_true hp) ?_
  refine lV (yNot rfl) rfl rfl ?_
  refine lNil ?_
  refine kThen ?_
  refine kIfF rfl ?_
  refine kSkip ?_
  refine kThen ?_
  refine kSeq ?_
  refine kRegion rfl ?_
  refine lV (yAssign rfl) rfl rfl ?_
  refine lNil ?_
  refine kThen ?_
  refine kSeq ?_
  refine kSeq ?_
  refine kRegion rfl ?_
  refine lV (yAssign rfl) rfl rfl ?_
  refine lNil ?_
  refine kThen ?_
  refine kBlock ?_
  refine kLoopX (ι := Nat × Nat) (fun x => (1 ≤ x.1 ∧ x.1 ≤ 2 ^ p.st.length) ∧ BestC (fun x => scalesP p x = []) (knownP p) x.2 x.1 ∧ x.2 < 1024) (fun x => [(5, i64 (x.1 : Nat)), (4, i64 (x.2 : Nat))]) [(0, _), (1, _), (2, _), (3, _), (6, _), (7, _), (8, _)] (fun x => []) (fun x => []) [(n1, _)] (fun x => 2 ^ p.st.length - x.1) (1, 0) (⟨⟨Nat.le_refl _, hp0⟩, ⟨.inl rfl, fun x hx hxt => absurd hxt (by omega)⟩, by decide⟩) rfl (.c rfl (.c rfl .n)) (.c rfl (.c rfl (.c rfl (.c rfl (.c rfl (.c rfl (.c rfl .n))))))) (.c 0 rfl .n) ?_
  rintro ⟨t, b⟩ ⟨ht, hb, hb4⟩
  dsimp only at ht hb hb4 ⊢
  refine kSeq ?_
  refine kSeq ?_
  refine kRegion rfl ?_
  refine lV (yMove rfl) rfl rfl ?_
  refine lV (yFieldAddr rfl F26_1) rfl rfl ?_
  refine lV (yLoad1 rfl O24 (cOwn 0 rfl rfl)) rfl rfl ?_
  refine lV (yLen rfl S24) rfl rfl ?_
  refine lV (yCall rfl (.c rfl .n) C84 (fun w hw => power_any p.st.length w (by omega))) rfl rfl ?_
  refine lV (yLss rfl rfl) rfl rfl ?_
  refine lNil ?_
  refine kThen ?_
  refine split (t := 14) rfl (fun h14 => ?_) (fun h14 => ?_)
  · refine kIfT rfl ?_
    refine kSkip ?_
    refine kThen ?_
    refine kSeq ?_
    refine kBlock ?_
    refine kSeq ?_
    have ht4 : t < 1024 := by omega
    have hand : t &&& knownP p < 1024 := Nat.lt_of_le_of_lt Nat.and_le_left ht4
    have hiff : ((t &&& knownP p : Nat) : Int) = (t : Nat) ↔ subS t (knownP p) := by rw [← and_sub]; omega
    have hsc : (((scalesP p t).map rowI).length : Int) = 0 ↔ scalesP p t = [] := by rw [List.length_map, ← List.length_eq_zero_iff]; omega
    have hst := hb.step (show 0 < t by omega)
    refine kRegion rfl ?_
    refine lV (yMove rfl) rfl rfl ?_
    refine lV (yLoadA (vs := [_, _, _]) rfl A26 (cOwn 0 rfl rfl)) rfl rfl ?_
    refine lV (yCall rfl (.c rfl .n) C38 (fun w hw => rknown_any y p w (hm.eff0 hw) (by omega))) rfl rfl ?_
    refine lV (yAnd rfl rfl rfl (by omega) (by omega)) rfl rfl ?_
    refine lV (yMove rfl) rfl rfl ?_
    refine lV (yEql rfl rfl) rfl rfl ?_
    refine split (t := 22) rfl (fun h22 => ?_) (fun h22 => ?_)
    · refine lV (yMove rfl) rfl rfl ?_
      refine lGY rfl rfl rfl (oV (yMove rfl) rfl ?_)
      refine lGY rfl rfl rfl (oV (yEql rfl rfl) rfl ?_)
      refine split (t := 25) rfl (fun h25 => ?_) (fun h25 => ?_)
      · refine lGY rfl rfl rfl (oV (yMove rfl) rfl ?_)
        refine lGN rfl rfl rfl rfl rfl ?_
        refine lGN rfl rfl rfl rfl rfl ?_
        refine lGN rfl rfl rfl rfl rfl ?_
        refine lGN rfl rfl rfl rfl rfl ?_
        refine lGN rfl rfl rfl rfl rfl ?_
        refine lGY rfl rfl rfl (oV (yPickT rfl rfl) rfl ?_)
        refine lV (yPickT rfl rfl) rfl rfl ?_
        refine lV (yMove rfl) rfl rfl ?_
        refine lGY rfl rfl rfl (oV (yLoadA (vs := [_, _, _]) rfl A26 (cOwn 0 rfl rfl)) rfl ?_)
        refine lGY rfl rfl rfl (oV (yMove rfl) rfl ?_)
        refine lGY rfl rfl rfl ?_
        refine eCallO rfl (.c rfl (.c rfl .n)) C85 (fun w hw => rscales_any y p t w (hm.eff0 hw) hp (subS_ok (hiff.1 h22))) fun g hg => ?_
        refine lGY rfl rfl rfl (oV (yLen rfl S56) rfl ?_)
        refine lGY rfl rfl rfl (oV (yEql rfl rfl) rfl ?_)
        refine split (t := 39) rfl (fun h39 => ?_) (fun h39 => ?_)
        · refine lV (yPickT rfl rfl) rfl rfl ?_
          refine lNil ?_
          refine kThen ?_
          refine kIfT rfl ?_
          refine kRegion rfl ?_
          refine lV (yMove rfl) rfl rfl ?_
          refine lV (yAssign rfl) rfl rfl ?_
          refine lNil ?_
          refine kInN ?_
          refine kThen ?_
          refine kRegion rfl ?_
          refine lV (yMove rfl) rfl rfl ?_
          refine lV (yAdd rfl rfl (by omega)) rfl rfl ?_
          refine lV (yAssign rfl) rfl rfl ?_
          refine lNil ?_
          exact kRoundX (t + 1, t) (⟨⟨by dsimp only; omega, by dsimp only; omega⟩, hst.1 ⟨hiff.1 h22, .inl (by omega), hsc.1 h39⟩, by dsimp only; omega⟩) (by dsimp only; omega) rfl (.c rfl (.c rfl .n)) (.c rfl (.c rfl (.c rfl (.c rfl (.c rfl (.c rfl (.c rfl .n))))))) (.c 0 rfl .n)
        · refine lV (yPickT rfl rfl) rfl rfl ?_
          refine lNil ?_
          refine kThen ?_
          refine kIfF rfl ?_
          refine kSkip ?_
          refine kInN ?_
          refine kThen ?_
          refine kRegion rfl ?_
          refine lV (yMove rfl) rfl rfl ?_
          refine lV (yAdd rfl rfl (by omega)) rfl rfl ?_
          refine lV (yAssign rfl) rfl rfl ?_
          refine lNil ?_
          exact kRoundX (t + 1, b) (⟨⟨by dsimp only; omega, by dsimp only; omega⟩, hst.2 fun h => h39 (hsc.2 h.2.2), by dsimp only; omega⟩) (by dsimp only; omega) rfl (.c rfl (.c rfl .n)) (.c rfl (.c rfl (.c rfl (.c rfl (.c rfl (.c rfl (.c rfl .n))))))) (.c 0 rfl .n)
      · refine lGY rfl rfl rfl (oV (yMove rfl) rfl ?_)
        refine lGY rfl rfl rfl (oV (yMove rfl) rfl ?_)
        refine lGY rfl rfl rfl (oV (yCall rfl (.c rfl .n) C43 (fun w hw => size_any t w (by omega))) rfl ?_)
        refine lGY rfl rfl rfl (oV (yMove rfl) rfl ?_)
        refine lGY rfl rfl rfl (oV (yCall rfl (.c rfl .n) C43 (fun w hw => size_any b w (by omega))) rfl ?_)
        refine lGY rfl rfl rfl (oV (yLss rfl rfl) rfl ?_)
        refine split (t := 31) rfl (fun h31 => ?_) (fun h31 => ?_)
        · refine lGY rfl rfl rfl (oV (yPickF rfl rfl) rfl ?_)
          refine lV (yPickT rfl rfl) rfl rfl ?_
          refine lV (yMove rfl) rfl rfl ?_
          refine lGY rfl rfl rfl (oV (yLoadA (vs := [_, _, _]) rfl A26 (cOwn 0 rfl rfl)) rfl ?_)
          refine lGY rfl rfl rfl (oV (yMove rfl) rfl ?_)
          refine lGY rfl rfl rfl ?_
          refine eCallO rfl (.c rfl (.c rfl .n)) C85 (fun w hw => rscales_any y p t w (hm.eff0 hw) hp (subS_ok (hiff.1 h22))) fun g hg => ?_
          refine lGY rfl rfl rfl (oV (yLen rfl S56) rfl ?_)
          refine lGY rfl rfl rfl (oV (yEql rfl rfl) rfl ?_)
          refine split (t := 39) rfl (fun h39 => ?_) (fun h39 => ?_)
          · refine lV (yPickT rfl rfl) rfl rfl ?_
            refine lNil ?_
            refine kThen ?_
            refine kIfT rfl ?_
            refine kRegion rfl ?_
            refine lV (yMove rfl) rfl rfl ?_
            refine lV (yAssign rfl) rfl rfl ?_
            refine lNil ?_
            refine kInN ?_
            refine kThen ?_
            refine kRegion rfl ?_
            refine lV (yMove rfl) rfl rfl ?_
            refine lV (yAdd rfl rfl (by omega)) rfl rfl ?_
            refine lV (yAssign rfl) rfl rfl ?_
            refine lNil ?_
            exact kRoundX (t + 1, t) (⟨⟨by dsimp only; omega, by dsimp only; omega⟩, hst.1 ⟨hiff.1 h22, .inr (by omega), hsc.1 h39⟩, by dsimp only; omega⟩) (by dsimp only; omega) rfl (.c rfl (.c rfl .n)) (.c rfl (.c rfl (.c rfl (.c rfl (.c rfl (.c rfl (.c rfl .n))))))) (.c 0 rfl .n)
          · refine lV (yPickT rfl rfl) rfl rfl ?_
            refine lNil ?_
            refine kThen ?_
            refine kIfF rfl ?_
            refine kSkip ?_
            refine kInN ?_
            refine kThen ?_
            refine kRegion rfl ?_
            refine lV (yMove rfl) rfl rfl ?_
            refine lV (yAdd rfl rfl (by omega)) rfl rfl ?_
            refine lV (yAssign rfl) rfl rfl ?_
            refine lNil ?_
            exact kRoundX (t + 1, b) (⟨⟨by dsimp only; omega, by dsimp only; omega⟩, hst.2 fun h => h39 (hsc.2 h.2.2), by dsimp only; omega⟩) (by dsimp only; omega) rfl (.c rfl (.c rfl .n)) (.c rfl (.c rfl (.c rfl (.c rfl (.c rfl (.c rfl (.c rfl .n))))))) (.c 0 rfl .n)
        · refine lGY rfl rfl rfl (oV (yPickF rfl rfl) rfl ?_)
          refine lV (yPickT rfl rfl) rfl rfl ?_
          refine lV (yMove rfl) rfl rfl ?_
          refine lGN rfl rfl rfl rfl rfl ?_
          refine lGN rfl rfl rfl rfl rfl ?_
          refine lGN rfl rfl rfl rfl rfl ?_
          refine lGN rfl rfl rfl rfl rfl ?_
          refine lGN rfl rfl rfl rfl rfl ?_
          refine lV (yPickF rfl rfl) rfl rfl ?_
          refine lNil ?_
          refine kThen ?_
          refine kIfF rfl ?_
          refine kSkip ?_
          refine kInN ?_
          refine kThen ?_
          refine kRegion rfl ?_
          refine lV (yMove rfl) rfl rfl ?_
          refine lV (yAdd rfl rfl (by omega)) rfl rfl ?_
          refine lV (yAssign rfl) rfl rfl ?_
          refine lNil ?_
          exact kRoundX (t + 1, b) (⟨⟨by dsimp only; omega, by dsimp only; omega⟩, hst.2 fun h => by rcases h.2.1 with h | h <;> omega, by dsimp only; omega⟩) (by dsimp only; omega) rfl (.c rfl (.c rfl .n)) (.c rfl (.c rfl (.c rfl (.c rfl (.c rfl (.c rfl (.c rfl .n))))))) (.c 0 rfl .n)
    · refine lV (yMove rfl) rfl rfl ?_
      refine lGN rfl rfl rfl rfl rfl ?_
      refine lGN rfl rfl rfl rfl rfl ?_
      refine lGN rfl rfl rfl rfl rfl ?_
      refine lGU rfl rfl rfl rfl ?_
      refine lGU rfl rfl rfl rfl ?_
      refine lGU rfl rfl rfl rfl ?_
      refine lGU rfl rfl rfl rfl ?_
      refine lGU rfl rfl rfl rfl ?_
      refine lGN rfl rfl rfl rfl rfl ?_
      refine lV (yPickF rfl rfl) rfl rfl ?_
      refine lV (yMove rfl) rfl rfl ?_
      refine lGN rfl rfl rfl rfl rfl ?_
      refine lGN rfl rfl rfl rfl rfl ?_
      refine lGN rfl rfl rfl rfl rfl ?_
      refine lGN rfl rfl rfl rfl rfl ?_
      refine lGN rfl rfl rfl rfl rfl ?_
      refine lV (yPickF rfl rfl) rfl rfl ?_
      refine lNil ?_
      refine kThen ?_
      refine kIfF rfl ?_
      refine kSkip ?_
      refine kInN ?_
      refine kThen ?_
      refine kRegion rfl ?_
      refine lV (yMove rfl) rfl rfl ?_
      refine lV (yAdd rfl rfl (by omega)) rfl rfl ?_
      refine lV (yAssign rfl) rfl rfl ?_
      refine lNil ?_
      exact kRoundX (t + 1, b) (⟨⟨by dsimp only; omega, by dsimp only; omega⟩, hst.2 fun h => h22 (hiff.2 h.1), by dsimp only; omega⟩) (by dsimp only; omega) rfl (.c rfl (.c rfl .n)) (.c rfl (.c rfl (.c rfl (.c rfl (.c rfl (.c rfl (.c rfl .n))))))) (.c 0 rfl .n)
  · refine kIfF rfl ?_
    refine kExit ?_
    refine kThenX ?_
    refine kThenX ?_
    refine kInX ?_
    refine kThen ?_
    refine kSeq ?_
    refine kRegion rfl ?_
    refine lV (yMove rfl) rfl rfl ?_
    refine lV (yAssign rfl) rfl rfl ?_
    refine lV (yAssign rfl) rfl rfl ?_
    refine lNil ?_
    refine kThen ?_
    refine kRet ?_
    refine fRet rfl (.t rfl (.t rfl .n)) (endRet ?_)
    obtain rfl : t = 2 ^ p.st.length := by omega
    rw [clash_best hp hb]
    rfl
theorem rclash_any (y : Option Addr × Nat) (p : Plt) (w : World) (hm : InP w y p) (hL : p.st.length ≤ 30) : Calls Try.prog 27 [.agg (pltC y p).toArray].toArray w (Ret w (outI (clashE p))) := by
  by_cases hp : PltOk p
  · exact rclash_ok y p w hm hp
  · exact rclash_bad y p w hm hL hp
end Go.Proofs.Ytlcdohhhhlhpmaa
