/-
  Plain law: all known places moved by as much.
-/
import Derived.Test.YtlcdohhhhlhpmaaP6
namespace Go.Proofs.Ytlcdohhhhlhpmaa
open ZW

theorem hullE_congr {l m : List Int} (h : ∀ x, x ∈ l ↔ x ∈ m) : hullE l = hullE m := ((hullE_hull l).congr h).uniq (hullE_hull m)
theorem hull_shift {l : List Int} (v : Int) (hne : l ≠ []) : hullE (l.map (· + v)) = ⟨(hullE l).lo + v, (hullE l).hi + v, true⟩ := by
  refine (hullE_hull _).uniq (.inr ?_)
  obtain ⟨x0, hx0⟩ := List.exists_mem_of_ne_nil _ hne
  rcases hullE_hull l with ⟨_, h⟩ | ⟨_, h2, h3, h4⟩
  · exact absurd hx0 (h _)
  · refine ⟨rfl, List.mem_map.2 ⟨_, h2, rfl⟩, List.mem_map.2 ⟨_, h3, rfl⟩, fun y hy => ?_⟩
    obtain ⟨x, hx, rfl⟩ := List.mem_map.1 hy
    have := h4 x hx
    dsimp only
    omega
def movS (b t : Int) (s : StarV) : StarV := if s.k = true then { s with e := (s.e.1 + b, s.e.2 + b), n := (s.n.1 + t, s.n.2 + t) } else s
abbrev vM (b t : Int) (d : Bool) : Int := if d then t else b
theorem movS_k (b t : Int) (s : StarV) : (movS b t s).k = s.k := by unfold movS; split <;> rfl
theorem movS_img (b t : Int) (s : StarV) (d : Bool) : imgD d (movS b t s) = imgD d s := by unfold movS; split <;> (cases d <;> rfl)
theorem movS_said {b t : Int} {s : StarV} (hk : s.k = true) (d : Bool) : saidD d (movS b t s) = ((saidD d s).1 + vM b t d, (saidD d s).2 + vM b t d) := by
  unfold movS
  rw [if_pos hk]
  cases d <;> rfl
theorem movS_not {b t : Int} {s : StarV} (hk : s.k = false) : movS b t s = s := by unfold movS; rw [if_neg (by rw [hk]; decide)]
def movP (p : Plt) (b t : Int) : Plt := ⟨p.sc, p.st.map (movS b t)⟩
theorem mov_get (p : Plt) (b t : Int) (i : Nat) : (movP p b t).st.getD i star0 = movS b t (p.st.getD i star0) := by
  unfold movP
  rw [List.getD_eq_getElem?_getD, List.getElem?_map, List.getD_eq_getElem?_getD]
  cases p.st[i]? with
  | none => rfl
  | some x => rfl
theorem mov_len (p : Plt) (b t : Int) : (movP p b t).st.length = p.st.length := List.length_map _
theorem mov_known (p : Plt) (b t : Int) : knownP (movP p b t) = knownP p := Nat.eq_of_testBit_eq fun i => by rw [knownP_test, knownP_test, mov_len, mov_get, movS_k]
theorem mov_none {p : Plt} {b t : Int} (h : knownP p = 0) : movP p b t = p := by
  have : p.st.map (movS b t) = p.st := by
    refine List.ext_getElem? fun i => ?_
    rw [List.getElem?_map]
    by_cases hi : i < p.st.length
    · have hk : (p.st.getD i star0).k = false := by
        have := kbit hi
        rw [h, Nat.zero_testBit] at this
        exact this.symm
      rw [List.getElem?_eq_getElem hi, Option.map_some, List.getElem_eq_getD (h := hi) (fallback := star0), movS_not hk]
    · rw [List.getElem?_eq_none (by omega)]; rfl
  unfold movP
  rw [this]

section
variable {p : Plt} {b t : Int}
theorem mov_cornT (hp : PltOk p) (hq : PltOk (movP p b t)) {set : Nat} (hset : setOk p set) (d : Bool) {s : Int} (hs : 0 ≤ s ∧ s ≤ 1000) : ∀ n, n ≤ p.st.length →
    ((∃ i, i < n ∧ set.testBit i = true) ∧ cornT (movP p b t) d s set n = ((cornT p d s set n).1 + vM b t d, (cornT p d s set n).2 + vM b t d)) ∨
    ((∀ i, i < n → set.testBit i = false) ∧ cornT (movP p b t) d s set n = (-1099511627776, 1099511627776) ∧ cornT p d s set n = (-1099511627776, 1099511627776))
  | 0, _ => .inr ⟨fun i hi => absurd hi (by omega), rfl, rfl⟩
  | n + 1, hn => by
    have ih := mov_cornT hp hq hset d hs n (by omega)
    rw [cornT_succ, cornT_succ]
    by_cases hb : set.testBit n = true
    · rw [if_pos hb, if_pos hb]
      refine .inl ⟨⟨n, by omega, hb⟩, ?_⟩
      have hk := (hset n hb).2
      have h1 := hp.s _ (getD_mem (show n < p.st.length by omega) star0)
      have h2 := hq.s _ (getD_mem (show n < (movP p b t).st.length by rw [mov_len]; omega) star0)
      have h3 := said_ok (d := d) h1 hk
      have h4 := said_ok (d := d) h2 (by rw [mov_get, movS_k]; exact hk)
      have h5 := long_bd (d := d) h1 hs
      rw [mov_get, movS_said hk] at h4
      unfold cornS
      rw [mov_get, movS_said hk, movS_img]
      unfold spanOk at h3 h4
      dsimp only at h4 ⊢
      rcases ih with ⟨_, e⟩ | ⟨_, e1, e2⟩
      · rw [e]
        dsimp only
        refine Prod.ext ?_ ?_ <;> (dsimp only; omega)
      · rw [e1, e2]
        dsimp only
        refine Prod.ext ?_ ?_ <;> (dsimp only; omega)
    · rw [if_neg hb, if_neg hb]
      rcases ih with ⟨⟨i, hi, h1⟩, e⟩ | ⟨h1, e⟩
      · exact .inl ⟨⟨i, by omega, h1⟩, e⟩
      · refine .inr ⟨fun i hi => ?_, e⟩
        rcases Nat.lt_or_ge i n with h2 | h2
        · exact h1 i h2
        · obtain rfl : i = n := by omega
          simpa using hb
theorem mov_corn (hp : PltOk p) (hq : PltOk (movP p b t)) {set : Nat} (hset : setOk p set) (h0 : set ≠ 0) (d : Bool) {s : Int} (hs : 0 ≤ s ∧ s ≤ 1000) : cornP (movP p b t) d s set = ((cornP p d s set).1 + vM b t d, (cornP p d s set).2 + vM b t d) := by
  unfold cornP
  rw [mov_len]
  rcases mov_cornT hp hq hset d hs p.st.length (Nat.le_refl _) with ⟨_, h⟩ | ⟨h, _⟩
  · exact h
  · refine absurd (Nat.eq_of_testBit_eq fun i => ?_) h0
    rw [Nat.zero_testBit]
    by_cases hi : i < p.st.length
    · exact h i hi
    · cases hb : set.testBit i with
      | false => rfl
      | true => exact absurd (hset i hb).1 hi
theorem mov_okAt (hp : PltOk p) (hq : PltOk (movP p b t)) {set : Nat} (hset : setOk p set) {s : Int} (hs : 0 ≤ s ∧ s ≤ 1000) : okAt (movP p b t) set s = okAt p set s := by
  rw [Bool.eq_iff_iff, okAt_iff, okAt_iff]
  refine forall_congr' fun d => ?_
  unfold cornP
  rw [mov_len]
  rcases mov_cornT hp hq hset d hs p.st.length (Nat.le_refl _) with ⟨_, h⟩ | ⟨_, h, h'⟩
  · rw [h]
    dsimp only
    omega
  · rw [h, h']
theorem mov_scales (hp : PltOk p) (hq : PltOk (movP p b t)) {set : Nat} (hset : setOk p set) : scalesP (movP p b t) set = scalesP p set := by
  unfold scalesP filS
  have e : nSc (movP p b t) = nSc p := rfl
  rw [e]
  have hc := hp.c
  unfold spanOk at hc
  have : (List.range (nSc p)).filter (fun j => okAt (movP p b t) set ((movP p b t).sc.1 + (j : Nat))) = (List.range (nSc p)).filter (fun j => okAt p set (p.sc.1 + (j : Nat))) := by
    refine List.filter_congr fun j hj => ?_
    have hj := List.mem_range.1 hj
    unfold nSc at hj
    show okAt (movP p b t) set (p.sc.1 + (j : Nat)) = _
    exact mov_okAt hp hq hset (by omega)
  rw [this]
  rfl
theorem mov_ks (hp : PltOk p) (hq : PltOk (movP p b t)) : scalesP (movP p b t) (knownP (movP p b t)) = scalesP p (knownP p) := by rw [mov_known]; exact mov_scales hp hq (known_ok p)
theorem mov_truth (hp : PltOk p) (hq : PltOk (movP p b t)) (is : Bool) : truthE (movP p b t) is = truthE p is := by
  unfold truthE
  rw [if_neg (not_not_intro hp), if_neg (not_not_intro hq), mov_ks hp hq]
theorem mov_told (hp : PltOk p) (hq : PltOk (movP p b t)) (is : Bool) : toldE (movP p b t) is = toldE p is := by
  unfold toldE
  rw [mov_truth hp hq, mov_known]
theorem mov_scale (hp : PltOk p) (hq : PltOk (movP p b t)) : scaleE (movP p b t) = scaleE p := by
  unfold scaleE
  rw [mov_truth hp hq, mov_ks hp hq]
theorem mov_hull {f g : Int → List Int} (v : Int) (hne : scalesP p (knownP p) ≠ []) (hg : ∀ s ∈ scalesP p (knownP p), f s = (g s).map (· + v)) (hg0 : ∀ s ∈ scalesP p (knownP p), g s ≠ []) :
    hullE ((scalesP p (knownP p)).flatMap f) = ⟨(hullE ((scalesP p (knownP p)).flatMap g)).lo + v, (hullE ((scalesP p (knownP p)).flatMap g)).hi + v, true⟩ := by
  rw [← hull_shift v]
  · refine hullE_congr fun x => ?_
    simp only [List.mem_flatMap, List.mem_map]
    constructor
    · rintro ⟨s, hs, hx⟩
      rw [hg s hs] at hx
      obtain ⟨y, hy, rfl⟩ := List.mem_map.1 hx
      exact ⟨y, ⟨s, hs, hy⟩, rfl⟩
    · rintro ⟨y, ⟨s, hs, hy⟩, rfl⟩
      exact ⟨s, hs, by rw [hg s hs]; exact List.mem_map.2 ⟨y, hy, rfl⟩⟩
  · obtain ⟨s, hs⟩ := List.exists_mem_of_ne_nil _ hne
    obtain ⟨y, hy⟩ := List.exists_mem_of_ne_nil _ (hg0 s hs)
    exact List.ne_nil_of_mem (List.mem_flatMap.2 ⟨s, hs, hy⟩)
theorem mov_cornK (hp : PltOk p) (hq : PltOk (movP p b t)) (hk : knownP p ≠ 0) (d : Bool) {s : Int} (hs : s ∈ scalesP p (knownP p)) : cornP (movP p b t) d s (knownP (movP p b t)) = ((cornP p d s (knownP p)).1 + vM b t d, (cornP p d s (knownP p)).2 + vM b t d) := by
  rw [mov_known]
  exact mov_corn hp hq (known_ok p) hk d (by have := mem_sc hp hs; omega)
theorem mov_zero (hp : PltOk p) (hq : PltOk (movP p b t)) : zeroE (movP p b t) = if toldE p true ≠ 0 then ((0, 0), (0, 0), toldE p true) else (((zeroE p).1.1 + b, (zeroE p).1.2 + b), ((zeroE p).2.1.1 + t, (zeroE p).2.1.2 + t), 0) := by
  unfold zeroE
  rw [mov_told hp hq]
  by_cases h : toldE p true = 0
  · obtain ⟨h1, h2⟩ := toldE_ok h
    have h3 := (truthE_ok h1).2.2
    rw [if_neg (not_not_intro h), if_neg (not_not_intro h), if_neg (not_not_intro h), mov_ks hp hq]
    have key : ∀ d, hullE ((scalesP p (knownP p)).flatMap (zeroG (movP p b t) d)) = ⟨(hullE ((scalesP p (knownP p)).flatMap (zeroG p d))).lo + vM b t d, (hullE ((scalesP p (knownP p)).flatMap (zeroG p d))).hi + vM b t d, true⟩ := fun d =>
      mov_hull (p := p) _ h3 (fun s hs => by unfold zeroG; rw [mov_cornK hp hq h2 d hs]; rfl) (fun s hs => by unfold zeroG; simp)
    rw [key, key]
    rfl
  · rw [if_pos h, if_pos h]
theorem mov_place (d : Bool) (s : StarV) (sc c : Int) : placeP d (movS b t s) sc (c + vM b t d) = ((placeP d s sc c).1 + vM b t d, (placeP d s sc c).2 + vM b t d) := by
  unfold placeP
  rw [movS_k, movS_img]
  by_cases hk : s.k = true
  · rw [if_pos hk, if_pos hk, movS_said hk]
    dsimp only
    refine Prod.ext ?_ ?_ <;> (dsimp only; omega)
  · rw [if_neg hk, if_neg hk]
    dsimp only
    refine Prod.ext ?_ ?_ <;> (dsimp only; omega)
theorem mov_star (hp : PltOk p) (hq : PltOk (movP p b t)) (n : Int) : starE (movP p b t) n = if toldE p (isStarB p n) ≠ 0 then ((0, 0), (0, 0), toldE p (isStarB p n)) else (((starE p n).1.1 + b, (starE p n).1.2 + b), ((starE p n).2.1.1 + t, (starE p n).2.1.2 + t), 0) := by
  have e : isStarB (movP p b t) n = isStarB p n := by unfold isStarB; rw [mov_len]
  unfold starE
  rw [e, mov_told hp hq]
  by_cases h : toldE p (isStarB p n) = 0
  · obtain ⟨h1, h2⟩ := toldE_ok h
    have h3 := (truthE_ok h1).2.2
    rw [if_neg (not_not_intro h), if_neg (not_not_intro h), if_neg (not_not_intro h)]
    have key : ∀ d, starH (movP p b t) n.toNat d = ⟨(starH p n.toNat d).lo + vM b t d, (starH p n.toNat d).hi + vM b t d, true⟩ := fun d => by
      unfold starH
      rw [mov_ks hp hq]
      exact mov_hull (p := p) _ h3 (fun s hs => by unfold starG; rw [mov_cornK hp hq h2 d hs, mov_get]; dsimp only; rw [mov_place, mov_place]; rfl) (fun s hs => by unfold starG; simp)
    rw [key, key]
    rfl
  · rw [if_pos h, if_pos h]
theorem mov_tried (d : Bool) (x y : StarV) (sc : Int) (c : Int × Int) : triedP d (movS b t x) (movS b t y) sc (c.1 + vM b t d, c.2 + vM b t d) = (triedP d x y sc c).map (· + vM b t d) := by
  have key : ∀ n, n ≤ 2 → triedT d [movS b t x, movS b t y] sc (c.1 + vM b t d, c.2 + vM b t d) n = (triedT d [x, y] sc c n).map (· + vM b t d) := by
    intro n
    induction n with
    | zero => intro _; rfl
    | succ n ih =>
      intro hn
      have e : [movS b t x, movS b t y].getD n star0 = movS b t ([x, y].getD n star0) := by
        match n, hn with
        | 0, _ => rfl
        | 1, _ => rfl
      rw [triedT_succ, triedT_succ, ih (by omega), e, movS_k, movS_img]
      by_cases hk : ([x, y].getD n star0).k = true
      · rw [if_pos hk, if_pos hk, List.map_append, movS_said hk]
        congr 1
        simp only [List.map_cons, List.map_nil, List.cons.injEq, and_true]
        omega
      · rw [if_neg hk, if_neg hk]
  exact key 2 (Nat.le_refl _)
theorem mov_apartG (d : Bool) (x y : StarV) (sc : Int) (c : Int × Int) : apartG d (movS b t x) (movS b t y) sc (c.1 + vM b t d, c.2 + vM b t d) = apartG d x y sc c := by
  unfold apartG
  rw [mov_tried, List.flatMap_map]
  refine congrArg (fun f => List.flatMap f (triedP d x y sc c)) (funext fun n => ?_)
  have e : clampC (c.1 + vM b t d, c.2 + vM b t d) (n + vM b t d) = clampC c n + vM b t d := by unfold clampC; dsimp only; omega
  unfold apartK
  rw [e, mov_place, mov_place]
  dsimp only
  simp only [List.cons.injEq, and_true]
  omega
theorem mov_apart (hp : PltOk p) (hq : PltOk (movP p b t)) (i k : Int) : apartE (movP p b t) i k = apartE p i k := by
  by_cases hk : knownP p = 0
  · rw [mov_none hk]
  have e : ∀ n, isStarB (movP p b t) n = isStarB p n := fun n => by unfold isStarB; rw [mov_len]
  unfold apartE
  rw [e, e, mov_truth hp hq]
  have key : ∀ d, apartH (movP p b t) i.toNat k.toNat d = apartH p i.toNat k.toNat d := fun d => by
    unfold apartH
    rw [mov_ks hp hq]
    refine hullE_congr fun x => ?_
    simp only [List.mem_flatMap]
    refine exists_congr fun s => and_congr_right fun hs => ?_
    unfold apartQ
    rw [mov_cornK hp hq hk d hs, mov_get, mov_get, mov_apartG]
  rw [key, key]
theorem mov_clash (hp : PltOk p) (hq : PltOk (movP p b t)) : clashE (movP p b t) = clashE p := by
  obtain ⟨c, e1, h1, h2⟩ := clash_spec hp
  obtain ⟨c', e1', h1', h2'⟩ := clash_spec hq
  rw [e1, e1']
  have hlt := setOk_lt (known_ok p) hp.n
  rw [mov_known] at h1' h2'
  have hsc : ∀ x, subS x (knownP p) → scalesP (movP p b t) x = scalesP p x := fun x hx => mov_scales hp hq (subS_ok hx)
  rw [hsc _ (fun _ h => h)] at h2'
  have : c' = c := by
    rcases h2 with ⟨h3, h4⟩ | ⟨h3, h4, h5, h6⟩
    · rcases h2' with ⟨h3', _⟩ | ⟨_, _, h5', _⟩
      · rw [h3, h3']
      · exact absurd h5' h4
    · rcases h2' with ⟨_, h4'⟩ | ⟨h3', h4', _, h6'⟩
      · exact absurd h5 h4'
      · have a := h6 c' h1' (pop_pos (subS_lt h1' hlt) h3') (by rw [← hsc c' h1']; exact h4')
        have a' := h6' c h1 (pop_pos (subS_lt h1 hlt) h3) (by rw [hsc c h1]; exact h4)
        omega
  rw [this]
theorem mov_find (hp : PltOk p) (hq : PltOk (movP p b t)) {e n : Int} (h1 : isSkyB e = true) (h2 : isSkyB n = true) (h3 : isSkyB (e + b) = true) (h4 : isSkyB (n + t) = true) : findE (movP p b t) (e + b) (n + t) = findE p e n := by
  unfold findE
  rw [h1, h2, h3, h4, mov_told hp hq]
  by_cases h : toldE p (true && true) = 0
  · obtain ⟨_, hk⟩ := toldE_ok h
    have key : ∀ d g, findH (movP p b t) d (g + vM b t d) = findH p d g := fun d g => by
      unfold findH
      rw [mov_ks hp hq]
      refine hullE_congr fun x => ?_
      simp only [List.mem_flatMap]
      refine exists_congr fun s => and_congr_right fun hs => ?_
      unfold findQ
      rw [mov_cornK hp hq hk d hs]
      unfold findC
      dsimp only
      rw [show g + vM b t d - ((cornP p d s (knownP p)).1 + vM b t d) = g - (cornP p d s (knownP p)).1 by omega, show g + vM b t d - ((cornP p d s (knownP p)).2 + vM b t d) = g - (cornP p d s (knownP p)).2 by omega]
    have k0 : findH (movP p b t) false (e + b) = findH p false e := key false e
    have k1 : findH (movP p b t) true (n + t) = findH p true n := key true n
    rw [k0, k1]
  · rw [if_pos h, if_pos h]
theorem mov_zero' (hp : PltOk p) (hq : PltOk (movP p b t)) : (zeroE (movP p b t)).2.2 = (zeroE p).2.2 ∧ ((zeroE p).2.2 = 0 → (zeroE (movP p b t)).1 = ((zeroE p).1.1 + b, (zeroE p).1.2 + b) ∧ (zeroE (movP p b t)).2.1 = ((zeroE p).2.1.1 + t, (zeroE p).2.1.2 + t)) := by
  have h := mov_zero hp hq
  by_cases h0 : toldE p true = 0
  · rw [if_neg (not_not_intro h0)] at h
    have h2 : (zeroE p).2.2 = 0 := by unfold zeroE; rw [if_neg (not_not_intro h0)]
    rw [h, h2]
    exact ⟨rfl, fun _ => ⟨rfl, rfl⟩⟩
  · rw [if_pos h0] at h
    have h2 : (zeroE p).2.2 = toldE p true := by unfold zeroE; rw [if_pos h0]
    rw [h, h2]
    exact ⟨rfl, fun h => absurd h h0⟩
theorem mov_star' (hp : PltOk p) (hq : PltOk (movP p b t)) (n : Int) : (starE (movP p b t) n).2.2 = (starE p n).2.2 ∧ ((starE p n).2.2 = 0 → (starE (movP p b t) n).1 = ((starE p n).1.1 + b, (starE p n).1.2 + b) ∧ (starE (movP p b t) n).2.1 = ((starE p n).2.1.1 + t, (starE p n).2.1.2 + t)) := by
  have h := mov_star hp hq n
  by_cases h0 : toldE p (isStarB p n) = 0
  · rw [if_neg (not_not_intro h0)] at h
    have h2 : (starE p n).2.2 = 0 := by unfold starE; rw [if_neg (not_not_intro h0)]
    rw [h, h2]
    exact ⟨rfl, fun _ => ⟨rfl, rfl⟩⟩
  · rw [if_pos h0] at h
    have h2 : (starE p n).2.2 = toldE p (isStarB p n) := by unfold starE; rw [if_pos h0]
    rw [h, h2]
    exact ⟨rfl, fun h => absurd h h0⟩
end
end Go.Proofs.Ytlcdohhhhlhpmaa
