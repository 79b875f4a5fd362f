/-
  Plain law: the order of stars makes no difference but to their numbers.
-/
import Derived.Test.YtlcdohhhhlhpmaaFa
namespace Go.Proofs.Ytlcdohhhhlhpmaa
open ZW

def revP (p : Plt) : Plt := ⟨p.sc, p.st.reverse⟩
theorem rev_len (p : Plt) : (revP p).st.length = p.st.length := List.length_reverse
theorem rev_get {p : Plt} {i : Nat} (hi : i < p.st.length) : (revP p).st.getD i star0 = p.st.getD (p.st.length - 1 - i) star0 := by
  unfold revP
  rw [← List.getElem_eq_getD (h := by rw [List.length_reverse]; exact hi), List.getElem_reverse, List.getElem_eq_getD star0]
theorem rev_ok {p : Plt} (hp : PltOk p) : PltOk (revP p) := ⟨hp.c, by rw [rev_len]; exact hp.n, fun x hx => hp.s x (List.mem_reverse.1 hx)⟩
theorem rev_rev (p : Plt) : revP (revP p) = p := by unfold revP; simp
/-- The sets of stars, numbered the other way round. -/
def MirS (n : Nat) (s t : Nat) : Prop := (∀ i, i < n → t.testBit i = s.testBit (n - 1 - i)) ∧ ∀ i, n ≤ i → t.testBit i = false
theorem rev_known (p : Plt) : MirS p.st.length (knownP p) (knownP (revP p)) := by
  refine ⟨fun i hi => ?_, fun i hi => ?_⟩
  · rw [knownP_test, knownP_test, rev_len, rev_get hi, decide_eq_true hi, decide_eq_true (show p.st.length - 1 - i < p.st.length by omega)]
  · rw [knownP_test, rev_len, decide_eq_false (by omega), Bool.false_and]
theorem rev_at {p : Plt} {d : Bool} {sc c : Int} {s t : Nat} (h : MirS p.st.length s t) : AtP (revP p) d sc t c ↔ AtP p d sc s c := by
  constructor
  · refine fun ha => ⟨ha.1, fun i hi hb => ?_⟩
    have h1 := ha.2 (p.st.length - 1 - i) (by rw [rev_len]; omega) (by rw [h.1 _ (by omega), show p.st.length - 1 - (p.st.length - 1 - i) = i by omega]; exact hb)
    rw [rev_get (by omega), show p.st.length - 1 - (p.st.length - 1 - i) = i by omega] at h1
    exact h1
  · refine fun ha => ⟨ha.1, fun i hi hb => ?_⟩
    rw [rev_len] at hi
    have h1 := ha.2 (p.st.length - 1 - i) (by omega) (by rw [← h.1 _ hi]; exact hb)
    rw [rev_get hi]
    exact h1
theorem rev_okAt {p : Plt} {sc : Int} {s t : Nat} (h : MirS p.st.length s t) : okAt (revP p) t sc = okAt p s sc := by
  rw [Bool.eq_iff_iff, okAt_at, okAt_at]
  exact forall_congr' fun d => exists_congr fun c => rev_at h
theorem rev_scales {p : Plt} {s t : Nat} (h : MirS p.st.length s t) : scalesP (revP p) t = scalesP p s := by
  unfold scalesP filS
  have : (List.range (nSc (revP p))).filter (fun j => okAt (revP p) t ((revP p).sc.1 + (j : Nat))) = (List.range (nSc p)).filter (fun j => okAt p s (p.sc.1 + (j : Nat))) :=
    List.filter_congr fun j _ => rev_okAt h
  rw [this]
  rfl
theorem rev_ks (p : Plt) : scalesP (revP p) (knownP (revP p)) = scalesP p (knownP p) := rev_scales (rev_known p)
theorem rev_k0 (p : Plt) : knownP (revP p) = 0 ↔ knownP p = 0 := by
  have key : ∀ p, knownP p = 0 → knownP (revP p) = 0 := fun p h => Nat.eq_of_testBit_eq fun i => by
    rw [Nat.zero_testBit]
    by_cases hi : i < p.st.length
    · rw [(rev_known p).1 i hi, h, Nat.zero_testBit]
    · exact (rev_known p).2 i (by omega)
  exact ⟨fun h => by have := key _ h; rwa [rev_rev] at this, key p⟩
theorem rev_truth {p : Plt} (hp : PltOk p) (is : Bool) : truthE (revP p) is = truthE p is := by
  unfold truthE
  rw [if_neg (not_not_intro hp), if_neg (not_not_intro (rev_ok hp)), rev_ks]
theorem rev_told {p : Plt} (hp : PltOk p) (is : Bool) : toldE (revP p) is = toldE p is := by
  unfold toldE
  rw [rev_truth hp]
  by_cases h : knownP p = 0
  · rw [if_pos h, if_pos ((rev_k0 p).2 h)]
  · rw [if_neg h, if_neg fun h' => h ((rev_k0 p).1 h')]
theorem rev_scale {p : Plt} (hp : PltOk p) : scaleE (revP p) = scaleE p := by
  unfold scaleE
  rw [rev_truth hp, rev_ks]
theorem rev_corn {p : Plt} (d : Bool) {s : Int} (hs : s ∈ scalesP p (knownP p)) : cornP (revP p) d s (knownP (revP p)) = cornP p d s (knownP p) := by
  have h1 := (mem_at hs d).1
  have h2 := (mem_at (p := revP p) (set := knownP (revP p)) (by rw [rev_ks]; exact hs) d).1
  have h : ∀ c, ((cornP (revP p) d s (knownP (revP p))).1 ≤ c ∧ c ≤ (cornP (revP p) d s (knownP (revP p))).2) ↔ ((cornP p d s (knownP p)).1 ≤ c ∧ c ≤ (cornP p d s (knownP p)).2) := fun c => by rw [corn_iff, corn_iff]; exact rev_at (rev_known p)
  have a := h (cornP p d s (knownP p)).1
  have b := h (cornP p d s (knownP p)).2
  have c := h (cornP (revP p) d s (knownP (revP p))).1
  have e := h (cornP (revP p) d s (knownP (revP p))).2
  refine Prod.ext ?_ ?_ <;> omega
theorem rev_zero {p : Plt} (hp : PltOk p) : zeroE (revP p) = zeroE p := by
  have key : ∀ d, hullE ((scalesP p (knownP p)).flatMap (zeroG (revP p) d)) = hullE ((scalesP p (knownP p)).flatMap (zeroG p d)) := fun d => by
    refine hullE_congr fun x => ?_
    simp only [List.mem_flatMap]
    refine exists_congr fun s => and_congr_right fun hs => ?_
    unfold zeroG
    rw [rev_corn d hs]
  unfold zeroE
  rw [rev_told hp, rev_ks, key, key]
theorem rev_star {p : Plt} (hp : PltOk p) {n m : Int} (h : isStarB p m = true → n = p.st.length - 1 - m) (h2 : isStarB p m = isStarB p n) : starE (revP p) n = starE p m := by
  have e : isStarB (revP p) n = isStarB p m := by rw [h2]; unfold isStarB; rw [rev_len]
  unfold starE
  rw [e, rev_told hp]
  by_cases ht : toldE p (isStarB p m) = 0
  · have h3 := (truthE_ok (toldE_ok ht).1).2.1
    have h4 := of_decide_eq_true h3
    obtain ⟨k, rfl⟩ : ∃ k : Nat, m = k := ⟨m.toNat, by omega⟩
    have h5 := h h3
    obtain rfl : n = ((p.st.length - 1 - k : Nat) : Int) := by omega
    have key : ∀ d, starH (revP p) (p.st.length - 1 - k) d = starH p k d := fun d => by
      unfold starH
      rw [rev_ks]
      refine hullE_congr fun x => ?_
      simp only [List.mem_flatMap]
      refine exists_congr fun s => and_congr_right fun hs => ?_
      unfold starG
      rw [rev_corn d hs, rev_get (by omega), show p.st.length - 1 - (p.st.length - 1 - k) = k by omega]
    simp only [Int.toNat_natCast]
    rw [key, key]
  · rw [if_pos ht, if_pos ht]

/-! ### How many -/
theorem pop_top : ∀ n s, n < 10 → s < 2 ^ n → popc (s ||| 1 * 2 ^ n) = popc s + 1 := by
  have h : ((List.range 10).all fun n => (List.range (2 ^ n)).all fun s => Nat.beq (popc (s ||| 1 * 2 ^ n)) (popc s + 1)) = true := by kernel_rfl
  intro n s hn hs
  have h1 := List.all_eq_true.1 (List.all_eq_true.1 h n (List.mem_range.2 hn)) s (List.mem_range.2 hs)
  exact Nat.eq_of_beq_eq_true h1
theorem pop_knownT (p : Plt) (hp : p.st.length ≤ 10) : ∀ n, n ≤ p.st.length → popc (knownT p n) = ((p.st.take n).filter (·.k)).length
  | 0, _ => by show popc 0 = 0; rfl
  | n + 1, hn => by
    have ih := pop_knownT p hp n (by omega)
    have hlt := knownT_lt p n
    rw [knownT_succ, List.take_succ_eq_append_getElem (by omega), List.filter_append, List.length_append, ← ih, List.getElem_eq_getD star0]
    by_cases hk : (p.st.getD n star0).k = true
    · rw [if_pos hk, pop_top n _ (by omega) hlt, List.filter_cons_of_pos hk]; rfl
    · rw [if_neg hk, List.filter_cons_of_neg hk]; rfl
theorem pop_known {p : Plt} (hp : p.st.length ≤ 10) : popc (knownP p) = (p.st.filter (·.k)).length := by
  unfold knownP
  rw [pop_knownT p hp _ (Nat.le_refl _), List.take_length]
theorem rev_pop {p : Plt} (hp : p.st.length ≤ 10) : popc (knownP (revP p)) = popc (knownP p) := by
  rw [pop_known hp, pop_known (by rw [rev_len]; exact hp)]
  unfold revP
  rw [List.filter_reverse, List.length_reverse]
/-- The set, numbered the other way round. -/
theorem mirror {p : Plt} (hp : PltOk p) {s : Nat} (hs : setOk p s) : ∃ t, MirS p.st.length s t ∧ popc t = popc s := by
  have h1 := part_known hs
  have h2 := rev_known (partP p s)
  have h3 := rev_pop (p := partP p s) (by rw [part_len]; exact hp.n)
  rw [h1, part_len] at h2
  rw [h1] at h3
  exact ⟨_, h2, h3⟩
theorem mir_sub {p : Plt} {s t : Nat} (h : MirS p.st.length s t) (hs : subS s (knownP p)) : subS t (knownP (revP p)) := fun i hi => by
  by_cases hn : i < p.st.length
  · rw [(rev_known p).1 i hn]
    exact hs _ (by rw [← h.1 i hn]; exact hi)
  · rw [h.2 i (by omega)] at hi; cases hi
theorem mir_less {n a a' b b' : Nat} (ha : MirS n a a') (hb : MirS n b b') : MirS n (less a b) (less a' b') := by
  refine ⟨fun i hi => ?_, fun i hi => ?_⟩
  · rw [less_bit, less_bit, ha.1 i hi, hb.1 i hi]
  · rw [less_bit, ha.2 i hi, Bool.false_and]
theorem rev_clash_le {p : Plt} (hp : PltOk p) {c c' : Nat} (h : clashE p = ((c : Int), 0)) (h' : clashE (revP p) = ((c' : Int), 0)) : popc c' ≤ popc c := by
  have hlt := setOk_lt (known_ok p) hp.n
  obtain ⟨x, e, h1, h2⟩ := clash_spec hp
  obtain ⟨x', e', h1', h2'⟩ := clash_spec (rev_ok hp)
  rw [e] at h; rw [e'] at h'
  obtain rfl : x = c := by have := (Prod.mk.inj h).1; omega
  obtain rfl : x' = c' := by have := (Prod.mk.inj h').1; omega
  rw [rev_ks] at h2'
  rcases h2' with ⟨h3, _⟩ | ⟨_, _, h5, h6⟩
  · rw [h3]; exact Nat.zero_le _
  · rcases h2 with ⟨_, h4⟩ | ⟨h3, h4, _, _⟩
    · exact absurd h5 h4
    · obtain ⟨t, ht, hpop⟩ := mirror hp (subS_ok h1)
      have h7 := h6 t (mir_sub ht h1) (by rw [hpop]; exact pop_pos (subS_lt h1 hlt) h3) (by rw [rev_scales ht]; exact h4)
      omega
theorem rev_drop_le {p : Plt} (hp : PltOk p) {c c' : Nat} (h : dropE p = ((c : Int), 0)) (h' : dropE (revP p) = ((c' : Int), 0)) : popc c' ≤ popc c := by
  have hlt := setOk_lt (known_ok p) hp.n
  obtain ⟨x, e, h1, h2⟩ := drop_spec hp
  obtain ⟨x', e', h1', h2'⟩ := drop_spec (rev_ok hp)
  rw [e] at h; rw [e'] at h'
  obtain rfl : x = c := by have := (Prod.mk.inj h).1; omega
  obtain rfl : x' = c' := by have := (Prod.mk.inj h').1; omega
  rw [rev_ks] at h2'
  rcases h2' with ⟨h3, _⟩ | ⟨_, _, h5, h6⟩
  · rw [h3]; exact Nat.zero_le _
  · rcases h2 with ⟨_, h4⟩ | ⟨h3, h4, _, _⟩
    · exact absurd h5 h4
    · obtain ⟨t, ht, hpop⟩ := mirror hp (subS_ok h1)
      have h7 := h6 t (mir_sub ht h1) (by rw [hpop]; exact pop_pos (subS_lt h1 hlt) h3) (by rw [rev_scales (mir_less (rev_known p) ht)]; exact h4)
      omega
theorem rev_sizes {p : Plt} (hp : PltOk p) : ∃ c c' d d' : Nat, clashE p = ((c : Int), 0) ∧ clashE (revP p) = ((c' : Int), 0) ∧ dropE p = ((d : Int), 0) ∧ dropE (revP p) = ((d' : Int), 0) ∧ popc c' = popc c ∧ popc d' = popc d ∧ (c < 1024 ∧ c' < 1024) ∧ d < 1024 ∧ d' < 1024 := by
  have hlt := setOk_lt (known_ok p) hp.n
  have hlt' := setOk_lt (known_ok (revP p)) (rev_ok hp).n
  obtain ⟨c, e1, s1, _⟩ := clash_spec hp
  obtain ⟨c', e2, s2, _⟩ := clash_spec (rev_ok hp)
  obtain ⟨d, e3, s3, _⟩ := drop_spec hp
  obtain ⟨d', e4, s4, _⟩ := drop_spec (rev_ok hp)
  have a := rev_clash_le hp e1 e2
  have b := rev_clash_le (rev_ok hp) e2 (by rw [rev_rev]; exact e1)
  have f := rev_drop_le hp e3 e4
  have g := rev_drop_le (rev_ok hp) e4 (by rw [rev_rev]; exact e3)
  exact ⟨c, c', d, d', e1, e2, e3, e4, by omega, by omega, ⟨subS_lt s1 hlt, subS_lt s2 hlt'⟩, subS_lt s3 hlt, subS_lt s4 hlt'⟩

/-! ### The other way round -/
theorem hull_neg {l : List Int} (hne : l ≠ []) : hullE (l.map fun x => -x) = ⟨-(hullE l).hi, -(hullE l).lo, true⟩ := by
  refine (hullE_hull _).uniq (.inr ?_)
  obtain ⟨x0, hx0⟩ := List.exists_mem_of_ne_nil _ hne
  rcases hullE_hull l with ⟨_, h⟩ | ⟨_, h2, h3, h4⟩
  · exact absurd hx0 (h _)
  · refine ⟨rfl, List.mem_map.2 ⟨_, h3, rfl⟩, List.mem_map.2 ⟨_, h2, rfl⟩, fun y hy => ?_⟩
    obtain ⟨x, hx, rfl⟩ := List.mem_map.1 hy
    have := h4 x hx
    dsimp only
    omega
/-- The corners that are tried. -/
theorem tried_mem {d : Bool} {a b : StarV} {sc : Int} {c : Int × Int} {n : Int} : n ∈ triedP d a b sc c ↔ (n = c.1 ∨ n = c.2) ∨ (a.k = true ∧ (n = (saidD d a).1 - (longP sc (imgD d a)).1 ∨ n = (saidD d a).2 - (longP sc (imgD d a)).2)) ∨ (b.k = true ∧ (n = (saidD d b).1 - (longP sc (imgD d b)).1 ∨ n = (saidD d b).2 - (longP sc (imgD d b)).2)) := by
  have e1 : triedT d [a, b] sc c 1 = if a.k = true then [c.1, c.2] ++ [(saidD d a).1 - (longP sc (imgD d a)).1, (saidD d a).2 - (longP sc (imgD d a)).2] else [c.1, c.2] := triedT_succ d [a, b] sc c 0
  have e2 : triedP d a b sc c = if b.k = true then triedT d [a, b] sc c 1 ++ [(saidD d b).1 - (longP sc (imgD d b)).1, (saidD d b).2 - (longP sc (imgD d b)).2] else triedT d [a, b] sc c 1 := triedT_succ d [a, b] sc c 1
  rw [e2, e1]
  by_cases ha : a.k = true <;> by_cases hb : b.k = true
  · rw [if_pos hb, if_pos ha]; simp [ha, hb, or_assoc]
  · rw [if_neg hb, if_pos ha]; simp [ha, hb, or_assoc]
  · rw [if_pos hb, if_neg ha]; simp [ha, hb, or_assoc]
  · rw [if_neg hb, if_neg ha]; simp [ha, hb]
theorem apartG_mem {d : Bool} {a b : StarV} {sc : Int} {c : Int × Int} {x : Int} : x ∈ apartG d a b sc c ↔ ∃ n ∈ triedP d a b sc c, x = (placeP d b sc (clampC c n)).1 - (placeP d a sc (clampC c n)).2 ∨ x = (placeP d b sc (clampC c n)).2 - (placeP d a sc (clampC c n)).1 := by
  unfold apartG apartK
  simp [List.mem_flatMap]
theorem apartG_neg {d : Bool} {a b : StarV} {sc : Int} {c : Int × Int} {x : Int} : x ∈ apartG d b a sc c ↔ -x ∈ apartG d a b sc c := by
  rw [apartG_mem, apartG_mem]
  refine exists_congr fun n => ?_
  have e : n ∈ triedP d b a sc c ↔ n ∈ triedP d a b sc c := by
    rw [tried_mem, tried_mem]
    refine or_congr_right ?_
    exact Or.comm
  rw [e]
  refine and_congr_right fun _ => ?_
  omega
theorem apartG_ne (d : Bool) (a b : StarV) (sc : Int) (c : Int × Int) : apartG d a b sc c ≠ [] := List.ne_nil_of_mem (apartG_mem.2 ⟨c.1, tried_mem.2 (.inl (.inl rfl)), .inl rfl⟩)
theorem apartH_neg {p : Plt} (i k : Nat) (d : Bool) (hne : scalesP p (knownP p) ≠ []) : apartH p k i d = ⟨-(apartH p i k d).hi, -(apartH p i k d).lo, true⟩ := by
  unfold apartH
  rw [← hull_neg]
  · refine hullE_congr fun x => ?_
    rw [List.mem_map]
    simp only [List.mem_flatMap]
    constructor
    · rintro ⟨s, hs, hx⟩
      exact ⟨-x, ⟨s, hs, apartG_neg.1 hx⟩, by omega⟩
    · rintro ⟨y, ⟨s, hs, hy⟩, rfl⟩
      exact ⟨s, hs, apartG_neg.2 (by rw [Int.neg_neg]; exact hy)⟩
  · obtain ⟨s, hs⟩ := List.exists_mem_of_ne_nil _ hne
    obtain ⟨y, hy⟩ := List.exists_mem_of_ne_nil _ (apartG_ne d (p.st.getD i star0) (p.st.getD k star0) s (cornP p d s (knownP p)))
    exact List.ne_nil_of_mem (List.mem_flatMap.2 ⟨s, hs, hy⟩)
theorem apart_neg (p : Plt) (i k : Int) : apartE p k i = ((-(apartE p i k).1.2, -(apartE p i k).1.1), (-(apartE p i k).2.1.2, -(apartE p i k).2.1.1), (apartE p i k).2.2) := by
  unfold apartE
  rw [Bool.and_comm]
  by_cases h : truthE p (isStarB p i && isStarB p k) = 0
  · rw [if_neg (not_not_intro h), if_neg (not_not_intro h)]
    by_cases e : i = k
    · rw [if_pos e, if_pos e.symm]; rfl
    · rw [if_neg e, if_neg (Ne.symm e), apartH_neg _ _ false (truthE_ok h).2.2, apartH_neg _ _ true (truthE_ok h).2.2]
  · rw [if_pos h, if_pos h]; rfl

/-! ### The star that is known least exactly -/
theorem poorT_spec (p : Plt) : ∀ n, (∀ i, i < n → wideP p i ≤ (poorT p n).2) ∧ ((poorT p n = (0, -1) ∧ ∀ i, i < n → wideP p i ≤ -1) ∨ ∃ k : Nat, k < n ∧ poorT p n = ((k : Int), wideP p k) ∧ ∀ i, i < k → wideP p i < wideP p k)
  | 0 => ⟨fun i hi => absurd hi (by omega), .inl ⟨rfl, fun i hi => absurd hi (by omega)⟩⟩
  | n + 1 => by
    obtain ⟨h1, h2⟩ := poorT_spec p n
    rw [poorT_succ]
    by_cases h : wideP p n > (poorT p n).2
    · rw [if_pos h]
      refine ⟨fun i hi => ?_, .inr ⟨n, by omega, rfl, fun i hi => ?_⟩⟩
      · rcases Nat.lt_or_ge i n with h3 | h3
        · have := h1 i h3; dsimp only; omega
        · obtain rfl : i = n := by omega
          exact Int.le_refl _
      · have := h1 i hi; omega
    · rw [if_neg h]
      refine ⟨fun i hi => ?_, ?_⟩
      · rcases Nat.lt_or_ge i n with h3 | h3
        · exact h1 i h3
        · obtain rfl : i = n := by omega
          omega
      · rcases h2 with ⟨e, h3⟩ | ⟨k, hk, e, h3⟩
        · refine .inl ⟨e, fun i hi => ?_⟩
          rcases Nat.lt_or_ge i n with h4 | h4
          · exact h3 i h4
          · obtain rfl : i = n := by omega
            rw [e] at h; dsimp only at h; omega
        · exact .inr ⟨k, by omega, e, h3⟩
end Go.Proofs.Ytlcdohhhhlhpmaa
