/-
  Plain law: a plate of which the stars of a set alone are known.
-/
import Derived.Test.YtlcdohhhhlhpmaaCb
import Derived.Test.YtlcdohhhhlhpmaaBb
namespace Go.Proofs.Ytlcdohhhhlhpmaa
open ZW

theorem partT_get (st : List StarV) (set : Nat) {i : Nat} (hi : i < st.length) : ∀ n, (partT st set n).getD i star0 = if i < n then setK (st.getD i star0) (set.testBit i) else st.getD i star0
  | 0 => by rw [if_neg (by omega)]; rfl
  | n + 1 => by
    have ih := partT_get st set hi n
    rw [partT_succ]
    by_cases h : i = n
    · subst h
      rw [List.getD_eq_getElem?_getD, List.getElem?_set_self (by rw [partT_len]; exact hi), Option.getD_some, if_pos (by omega), ih, if_neg (by omega)]
    · rw [List.getD_eq_getElem?_getD, List.getElem?_set_ne (Ne.symm h), ← List.getD_eq_getElem?_getD, ih]
      by_cases h2 : i < n
      · rw [if_pos h2, if_pos (by omega)]
      · rw [if_neg h2, if_neg (by omega)]
theorem part_get {p : Plt} {set i : Nat} (hi : i < p.st.length) : (partP p set).st.getD i star0 = setK (p.st.getD i star0) (set.testBit i) := by
  show (partT p.st set p.st.length).getD i star0 = _
  rw [partT_get _ _ hi, if_pos hi]
theorem part_len (p : Plt) (set : Nat) : (partP p set).st.length = p.st.length := partT_len _ _ _
theorem part_ok {p : Plt} {set : Nat} (hp : PltOk p) (hs : setOk p set) : PltOk (partP p set) := by
  refine ⟨hp.c, by rw [part_len]; exact hp.n, fun x hx => ?_⟩
  obtain ⟨i, hi, rfl⟩ := List.mem_iff_getElem.1 hx
  have hi' : i < p.st.length := by rw [part_len] at hi; exact hi
  have h1 := hp.s _ (getD_mem hi' star0)
  rw [List.getElem_eq_getD (h := hi) star0, part_get hi']
  exact ⟨h1.1, h1.2.1, fun hk => h1.2.2 (hs i hk).2⟩
theorem part_known {p : Plt} {set : Nat} (hs : setOk p set) : knownP (partP p set) = set := by
  refine Nat.eq_of_testBit_eq fun i => ?_
  rw [knownP_test, part_len]
  by_cases hi : i < p.st.length
  · rw [part_get hi, decide_eq_true hi, Bool.true_and]; rfl
  · rw [decide_eq_false hi, Bool.false_and]
    cases hb : set.testBit i with
    | false => rfl
    | true => exact absurd (hs i hb).1 hi
theorem part_at {p : Plt} {d : Bool} {sc : Int} {set s : Nat} {c : Int} : AtP (partP p set) d sc s c ↔ AtP p d sc s c := by
  unfold AtP At
  rw [part_len]
  refine and_congr_right fun _ => forall_congr' fun i => ?_
  constructor
  · intro h hi hb
    have := h hi hb
    rw [part_get hi] at this
    cases d <;> exact this
  · intro h hi hb
    have := h hi hb
    rw [part_get hi]
    cases d <;> exact this
theorem part_scales {p : Plt} {set s : Nat} : scalesP (partP p set) s ≠ [] ↔ scalesP p s ≠ [] := by
  rw [scales_ne, scales_ne]
  refine exists_congr fun sc => and_congr Iff.rfl ?_
  rw [okAt_at, okAt_at]
  exact forall_congr' fun d => exists_congr fun c => part_at
/-- Can the stars of a set be right? -/
theorem part_scale {p : Plt} {set : Nat} (hp : PltOk p) (hs : setOk p set) : (scaleE (partP p set)).2 = 0 ↔ scalesP p set ≠ [] := by
  have h1 := part_ok hp hs
  have e : truthE (partP p set) true = if scalesP (partP p set) set = [] then 10 else 0 := by
    unfold truthE
    rw [if_neg (not_not_intro h1), if_neg (by simp), part_known hs]
  unfold scaleE
  rw [e]
  by_cases h : scalesP (partP p set) set = []
  · rw [if_pos h, if_pos (by decide)]
    exact ⟨fun h => absurd h (by decide), fun h2 => absurd h (part_scales.2 h2)⟩
  · rw [if_neg h, if_neg (by decide)]
    exact ⟨fun _ => part_scales.1 h, fun _ => rfl⟩
theorem less_self_sub (a b : Nat) : subS (less a b) a := fun i hi => by rw [less_bit, Bool.and_eq_true] at hi; exact hi.1
theorem clash_spec {p : Plt} (hp : PltOk p) : ∃ c : Nat, clashE p = ((c : Int), 0) ∧ subS c (knownP p) ∧ ((c = 0 ∧ scalesP p (knownP p) ≠ []) ∨ (c ≠ 0 ∧ scalesP p c = [] ∧ scalesP p (knownP p) = [] ∧ ∀ x, subS x (knownP p) → 0 < popc x → scalesP p x = [] → popc c < popc x ∨ popc c = popc x ∧ c ≤ x)) := by
  have hlt := setOk_lt (known_ok p) hp.n
  unfold clashE
  rw [if_neg (not_not_intro hp)]
  by_cases h : scalesP p (knownP p) ≠ []
  · rw [if_pos h]; exact ⟨0, rfl, subS_zero _, .inl ⟨rfl, h⟩⟩
  · rw [if_neg h]
    have h' : scalesP p (knownP p) = [] := Decidable.not_not.1 h
    have hb : ∀ x, clashB p x = true ↔ scalesP p x = [] := fun x => by unfold clashB; simp
    rcases leastT_spec (clashB p) (knownP p) hlt (popc (knownP p)) with ⟨h0, h1⟩ | ⟨h1, h2, h3, _, h5⟩
    · exfalso
      have h2 : popc (knownP p) ≠ 0 := fun h0 => by
        have hz := pop_zero hlt h0
        rw [hz] at h'
        have hc := hp.c
        unfold spanOk at hc
        refine scales_ne.2 ⟨p.sc.1, ⟨Int.le_refl _, hc.2.1⟩, okAt_at.2 fun d => ⟨0, by omega, fun i _ hb => by simp at hb⟩⟩ h'
      have := h1 (knownP p) (fun _ h => h) (by omega) (Nat.le_refl _)
      rw [(hb _).2 h'] at this; cases this
    · exact ⟨leastP (clashB p) (knownP p), rfl, h1, .inr ⟨h2, (hb _).1 h3, h', fun x hx hp hs => h5 x hx hp ((hb x).2 hs)⟩⟩
theorem drop_spec {p : Plt} (hp : PltOk p) : ∃ c : Nat, dropE p = ((c : Int), 0) ∧ subS c (knownP p) ∧ ((c = 0 ∧ scalesP p (knownP p) ≠ []) ∨ (c ≠ 0 ∧ scalesP p (less (knownP p) c) ≠ [] ∧ scalesP p (knownP p) = [] ∧ ∀ x, subS x (knownP p) → 0 < popc x → scalesP p (less (knownP p) x) ≠ [] → popc c < popc x ∨ popc c = popc x ∧ c ≤ x)) := by
  have hlt := setOk_lt (known_ok p) hp.n
  unfold dropE
  rw [if_neg (not_not_intro hp)]
  by_cases h : scalesP p (knownP p) ≠ []
  · rw [if_pos h]; exact ⟨0, rfl, subS_zero _, .inl ⟨rfl, h⟩⟩
  · rw [if_neg h]
    have h' : scalesP p (knownP p) = [] := Decidable.not_not.1 h
    have hb : ∀ x, dropB p x = true ↔ scalesP p (less (knownP p) x) ≠ [] := fun x => by unfold dropB; rw [decide_eq_true_eq]
    have h00 : ∀ x, x = 0 → scalesP p x ≠ [] := fun x hx => by
      subst hx
      have hc := hp.c
      unfold spanOk at hc
      exact scales_ne.2 ⟨p.sc.1, ⟨Int.le_refl _, hc.2.1⟩, okAt_at.2 fun d => ⟨0, by omega, fun i _ hb => by simp at hb⟩⟩
    rcases leastT_spec (dropB p) (knownP p) hlt (popc (knownP p)) with ⟨h0, h1⟩ | ⟨h1, h2, h3, _, h5⟩
    · exfalso
      have h2 : popc (knownP p) ≠ 0 := fun h0 => h00 _ (pop_zero hlt h0) h'
      have := h1 (knownP p) (fun _ h => h) (by omega) (Nat.le_refl _)
      rw [(hb _).2 (h00 _ (Nat.eq_of_testBit_eq fun i => by rw [less_bit]; simp))] at this; cases this
    · exact ⟨leastP (dropB p) (knownP p), rfl, h1, .inr ⟨h2, (hb _).1 h3, h', fun x hx hp hs => h5 x hx hp ((hb x).2 hs)⟩⟩
end Go.Proofs.Ytlcdohhhhlhpmaa
