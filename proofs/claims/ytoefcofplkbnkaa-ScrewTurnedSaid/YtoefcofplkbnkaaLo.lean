/-
  The plain law of measures: settings from behind, images numbered otherwise.
-/
import Derived.Test.YtoefcofplkbnkaaLn
namespace Go.Proofs.Ytoefcofplkbnkaa
open ZW

/-! ### A set from behind -/
def backP (S n k : Nat) : Nat := (List.range k).foldl (fun o i => o ||| (S / 2 ^ i &&& 1) * 2 ^ (n - 1 - i)) 0
theorem backP_succ (S n k : Nat) : backP S n (k + 1) = backP S n k ||| (S / 2 ^ k &&& 1) * 2 ^ (n - 1 - k) := range_foldl_succ _ _ _
theorem bit_mul (S i j : Nat) : (S / 2 ^ i &&& 1) * 2 ^ j = if S.testBit i = true then 2 ^ j else 0 := by
  rw [Nat.testBit_eq_decide_div_mod_eq, Nat.and_one_is_mod]
  have : S / 2 ^ i % 2 < 2 := Nat.mod_lt _ (by decide)
  by_cases h : S / 2 ^ i % 2 = 1
  · rw [h]; simp
  · have h0 : S / 2 ^ i % 2 = 0 := by omega
    rw [h0]; simp
theorem backP_bit (S n j : Nat) : ∀ k, (backP S n k).testBit j = true ↔ ∃ i, i < k ∧ S.testBit i = true ∧ n - 1 - i = j
  | 0 => by simp [backP]
  | k + 1 => by
    have ih := backP_bit S n j k
    rw [backP_succ, Nat.testBit_or, Bool.or_eq_true, ih, bit_mul]
    constructor
    · rintro (⟨i, hi, h⟩ | h)
      · exact ⟨i, by omega, h⟩
      · by_cases hb : S.testBit k = true
        · rw [if_pos hb, Nat.testBit_two_pow, decide_eq_true_eq] at h
          exact ⟨k, by omega, hb, h⟩
        · rw [if_neg hb] at h; simp at h
    · rintro ⟨i, hi, hb, he⟩
      rcases Nat.lt_or_ge i k with h | h
      · exact .inl ⟨i, h, hb, he⟩
      · obtain rfl : i = k := by omega
        right
        rw [if_pos hb, Nat.testBit_two_pow, decide_eq_true_eq]; exact he
theorem backP_lt (S n : Nat) : ∀ k, k ≤ n → backP S n k < 2 ^ n
  | 0, _ => by simp [backP]; exact Nat.two_pow_pos n
  | k + 1, hk => by
    rw [backP_succ]
    refine Nat.or_lt_two_pow (backP_lt S n k (by omega)) ?_
    rw [bit_mul]
    split
    · exact Nat.pow_lt_pow_right (by omega) (by omega)
    · exact Nat.two_pow_pos n
theorem back_pop : ∀ n, n < 13 → ∀ S, S < 2 ^ n → popc (backP S n n) = popc S := by
  have h : ((List.range 13).all fun n => (List.range (2 ^ n)).all fun S => decide (popc (backP S n n) = popc S)) = true := by kernel_rfl
  intro n hn S hS
  have := List.all_eq_true.1 (List.all_eq_true.1 h n (List.mem_range.2 hn)) S (List.mem_range.2 hS)
  exact of_decide_eq_true this
theorem back_bit {S n i : Nat} (hi : i < n) : (backP S n n).testBit i = S.testBit (n - 1 - i) := by
  refine Bool.eq_iff_iff.2 ?_
  rw [backP_bit]
  constructor
  · rintro ⟨j, hj, hb, he⟩
    rw [show n - 1 - i = j from by omega]; exact hb
  · intro h; exact ⟨n - 1 - i, by omega, h, by omega⟩

/-! ### Images numbered otherwise -/
def sigI (m : Meas) (t : Nat) (a : Int) : Int := (a + (t : Int)) % m.images
def sigN (N t g : Nat) : Nat := (g + t) % N
def tauN (N t g : Nat) : Nat := (g + (N - t % N)) % N
theorem tau_sig {N t g : Nat} (hg : g < N) : tauN N t (sigN N t g) = g := by
  unfold tauN sigN
  have hlt := Nat.mod_lt t (show 0 < N by omega)
  have hd := Nat.div_add_mod t N
  rw [Nat.mod_add_mod, show g + t + (N - t % N) = g + N * (t / N + 1) from by rw [Nat.mul_add]; omega, Nat.add_mul_mod_self_left, Nat.mod_eq_of_lt hg]
theorem sig_tau {N t g : Nat} (hg : g < N) : sigN N t (tauN N t g) = g := by
  unfold tauN sigN
  have hlt := Nat.mod_lt t (show 0 < N by omega)
  have hd := Nat.div_add_mod t N
  rw [Nat.mod_add_mod, show g + (N - t % N) + t = g + N * (t / N + 1) from by rw [Nat.mul_add]; omega, Nat.add_mul_mod_self_left, Nat.mod_eq_of_lt hg]
theorem sigI_nat {m : Meas} (hM : MeasOk m) (t g : Nat) : sigI m t (g : Nat) = ((sigN m.images.toNat t g : Nat) : Int) := by
  have hI := hM.i
  have e : m.images = ((m.images.toNat : Nat) : Int) := by omega
  unfold sigI sigN
  rw [Int.natCast_emod, ← e, Int.natCast_add]
theorem sig_lt {m : Meas} (hM : MeasOk m) (t g : Nat) : sigN m.images.toNat t g < m.images.toNat := Nat.mod_lt _ (by have := hM.i; omega)
abbrev turnS (m : Meas) (t : Nat) (x : Int × Int × Bool) : Int × Int × Bool := (sigI m t x.1, x.2.1, x.2.2)
def turnL (m : Meas) (t k : Nat) : List (Int × Int × Bool) := (List.range k).map fun j => turnS m t (setAt m (m.sets.length - 1 - j))
def turnM (m : Meas) (t : Nat) : Meas := { m with sets := turnL m t m.sets.length }
theorem turnL_succ (m : Meas) (t k : Nat) : turnL m t (k + 1) = turnL m t k ++ [turnS m t (setAt m (m.sets.length - 1 - k))] := by unfold turnL; rw [List.range_succ, List.map_append]; rfl
theorem turnL_len (m : Meas) (t k : Nat) : (turnL m t k).length = k := by simp [turnL]
theorem turnM_len (m : Meas) (t : Nat) : (turnM m t).sets.length = m.sets.length := turnL_len m t _
theorem turn_at (m : Meas) (t : Nat) {i : Nat} (hi : i < m.sets.length) : setAt (turnM m t) i = turnS m t (setAt m (m.sets.length - 1 - i)) := by
  have : i < (turnM m t).sets.length := by rw [turnM_len]; exact hi
  unfold setAt
  rw [← List.getElem_eq_getD (h := this)]
  simp [turnM, turnL, setAt]
theorem img_nat {m : Meas} (hM : MeasOk m) {i : Nat} (hi : i < m.sets.length) : ∃ g : Nat, g < m.images.toNat ∧ (setAt m i).1 = (g : Nat) := by
  have h1 := (hM.a _ (setAt_mem hi)).1
  have h2 := hM.i
  exact ⟨(setAt m i).1.toNat, by omega, by omega⟩
theorem turn_ok {m : Meas} (hM : MeasOk m) (t : Nat) : MeasOk (turnM m t) := by
  refine ⟨⟨hM.s.n, hM.s.e, hM.s.y⟩, hM.i, hM.u, by rw [turnM_len]; exact hM.n, fun x hx => ?_⟩
  obtain ⟨j, hj, rfl⟩ := List.mem_map.1 hx
  have hj := List.mem_range.1 hj
  obtain ⟨g, hg, he⟩ := img_nat hM (i := m.sets.length - 1 - j) (by omega)
  have h1 := (hM.a _ (setAt_mem (m := m) (i := m.sets.length - 1 - j) (by omega))).2
  refine ⟨?_, h1⟩
  have h2 := sig_lt hM t g
  have h3 := hM.i
  show 0 ≤ sigI m t (setAt m (m.sets.length - 1 - j)).1 ∧ sigI m t (setAt m (m.sets.length - 1 - j)).1 ≤ m.images - 1
  rw [he, sigI_nat hM]; omega
def turnP (m : Meas) (t : Nat) (p : Nat → Int) (k : Nat) : Int := if k < 2 then p k else p (2 + tauN m.images.toNat t (k - 2))
def backQ (m : Meas) (t : Nat) (q : Nat → Int) (k : Nat) : Int := if k < 2 then q k else q (2 + sigN m.images.toNat t (k - 2))
theorem turnP_2 {m : Meas} (t : Nat) (p : Nat → Int) {g : Nat} (hg : g < m.images.toNat) : turnP m t p (2 + sigN m.images.toNat t g) = p (2 + g) := by
  unfold turnP
  rw [if_neg (by omega), show 2 + sigN m.images.toNat t g - 2 = sigN m.images.toNat t g from by omega, tau_sig hg]
theorem backQ_2 {m : Meas} (t : Nat) (q : Nat → Int) (g : Nat) : backQ m t q (2 + g) = q (2 + sigN m.images.toNat t g) := by
  unfold backQ
  rw [if_neg (by omega), show 2 + g - 2 = g from by omega]
theorem truth_congr {m : Meas} (hM : MeasOk m) {S : Nat} {p q : Nat → Int} (h0 : p 0 = q 0) (h1 : p 1 = q 1) (h2 : ∀ g, g < m.images.toNat → p (2 + g) = q (2 + g)) (h : TruthP m S p) : TruthP m S q := by
  have h := (truth_set hM).1 h
  refine (truth_set hM).2 ⟨by rw [← h0, ← h1]; exact h.1, fun i hi hb => ?_⟩
  obtain ⟨g, hg, he⟩ := img_nat hM hi
  have hs := h.2 i hi hb
  unfold setOk at hs ⊢
  rw [he, Int.toNat_natCast, h0, h1, h2 g hg] at hs
  rw [he, Int.toNat_natCast]
  exact hs
def bitsB (n : Nat) (S T : Nat) : Prop := ∀ i, i < n → T.testBit i = S.testBit (n - 1 - i)
theorem turn_iso {m : Meas} (hM : MeasOk m) (t : Nat) : Iso2 m (turnM m t) (turnP m t) (backQ m t) (bitsB m.sets.length) := by
  have hset : ∀ (p q : Nat → Int) (i : Nat), i < m.sets.length → q 0 = p 0 → q 1 = p 1 → (∀ g, g < m.images.toNat → q (2 + sigN m.images.toNat t g) = p (2 + g)) → (setOk (turnM m t) q (turnS m t (setAt m i)) ↔ setOk m p (setAt m i)) := fun p q i hi h0 h1 h2 => by
    obtain ⟨g, hg, he⟩ := img_nat hM hi
    have e : ∀ r, travelP (turnM m t) r = travelP m r := fun r => rfl
    unfold setOk
    simp only [e]
    rw [he, sigI_nat hM, Int.toNat_natCast, Int.toNat_natCast, h0, h1, h2 g hg]
  refine ⟨hM, turn_ok hM t, turnM_len m t, fun S T p hb hp => ?_, fun S T q hb hq => ?_, fun i hi => ?_⟩
  · have h := (truth_set hM).1 hp
    refine (truth_set (turn_ok hM t)).2 ⟨h.1, fun i hi hbi => ?_⟩
    rw [turnM_len] at hi
    rw [turn_at m t hi]
    exact (hset p (turnP m t p) (m.sets.length - 1 - i) (by omega) rfl rfl fun g hg => turnP_2 t p hg).2 (h.2 (m.sets.length - 1 - i) (by omega) (by rw [← hb i hi]; exact hbi))
  · have h := (truth_set (turn_ok hM t)).1 hq
    refine (truth_set hM).2 ⟨h.1, fun j hj hbj => ?_⟩
    have hi : m.sets.length - 1 - j < m.sets.length := by omega
    have h1 := h.2 (m.sets.length - 1 - j) (by rw [turnM_len]; exact hi) (by rw [hb _ hi, show m.sets.length - 1 - (m.sets.length - 1 - j) = j from by omega]; exact hbj)
    rw [turn_at m t hi, show m.sets.length - 1 - (m.sets.length - 1 - j) = j from by omega] at h1
    exact (hset (backQ m t q) q j hj rfl rfl fun g hg => (backQ_2 t q g).symm).1 h1
  · rw [full_testBit, full_testBit, turnM_len]
    exact decide_eq_decide.2 (by omega)
theorem bitsB_back (n S : Nat) : bitsB n S (backP S n n) := fun _ hi => back_bit hi
theorem bitsB_fore (n T : Nat) : bitsB n (backP T n n) T := fun i hi => by rw [back_bit (by omega), show n - 1 - (n - 1 - i) = i from by omega]
theorem turn_full (m : Meas) (t : Nat) : fullS (turnM m t) = fullS m := by unfold fullS; rw [turnM_len]
theorem back_le (m : Meas) (S : Nat) : backP S m.sets.length m.sets.length ≤ fullS m := by
  have := backP_lt S m.sets.length m.sets.length (Nat.le_refl _)
  unfold fullS; omega
theorem bitsB_less {m : Meas} {S T : Nat} (h : bitsB m.sets.length S T) : bitsB m.sets.length (less (fullS m) S) (less (fullS m) T) := fun i hi => by
  rw [less_bit, less_bit, full_bit m hi, full_bit m (show m.sets.length - 1 - i < m.sets.length by omega), h i hi]
theorem le_pow {m : Meas} {S : Nat} (h : S ≤ fullS m) : S < 2 ^ m.sets.length := by
  have := Nat.two_pow_pos m.sets.length
  unfold fullS at h; omega
theorem turn_clash {m : Meas} (hM : MeasOk m) (t : Nat) : popc (clashS (turnM m t)) = popc (clashS m) := by
  have hZ := turn_ok hM t
  have iso := turn_iso hM t
  have cm := clash_facts hM
  have cz := clash_facts hZ
  have hN := hM.n
  by_cases ho : okF m
  · rw [cm.c0.1 ho, cz.c0.1 (iso.okiff.2 ho)]
  · have n1 : clashS m ≠ 0 := fun h => ho (cm.c0.2 h)
    have n2 : clashS (turnM m t) ≠ 0 := fun h => ho (iso.okiff.1 (cz.c0.2 h))
    have l2 : clashS (turnM m t) ≤ fullS m := by have := cz.cle; rwa [turn_full] at this
    have h1 := (cz.cbest (backP (clashS m) m.sets.length m.sets.length) (by rw [turn_full]; exact back_le m _) ((iso.can (bitsB_back _ _)).trans (cm.cbad n1))).2
    have h2 := (cm.cbest (backP (clashS (turnM m t)) m.sets.length m.sets.length) (back_le m _) ((iso.can (bitsB_fore _ _)).symm.trans (cz.cbad n2))).2
    rw [back_pop _ (by omega) _ (le_pow cm.cle)] at h1
    rw [back_pop _ (by omega) _ (le_pow l2)] at h2
    omega
theorem turn_drop {m : Meas} (hM : MeasOk m) (t : Nat) : popc (dropS (turnM m t)) = popc (dropS m) := by
  have hZ := turn_ok hM t
  have iso := turn_iso hM t
  have cm := clash_facts hM
  have cz := clash_facts hZ
  have hN := hM.n
  have l2 : dropS (turnM m t) ≤ fullS m := by have := cz.dle; rwa [turn_full] at this
  have h1 := cz.dmin (backP (dropS m) m.sets.length m.sets.length) (by rw [turn_full]; exact back_le m _) (by
    rw [turn_full]
    exact (iso.can (bitsB_less (bitsB_back _ _))).trans cm.dcan)
  have h2 := cm.dmin (backP (dropS (turnM m t)) m.sets.length m.sets.length) (back_le m _) (by
    have := cz.dcan
    rw [turn_full] at this
    exact (iso.can (bitsB_less (bitsB_fore _ _))).symm.trans this)
  rw [back_pop _ (by omega) _ (le_pow cm.dle)] at h1
  rw [back_pop _ (by omega) _ (le_pow l2)] at h2
  omega
theorem turn_idle {m : Meas} (hM : MeasOk m) (t : Nat) (ho : okF m) : idleW (turnM m t) m.sets.length = backP (idleW m m.sets.length) m.sets.length m.sets.length := by
  have hZ := turn_ok hM t
  have iso := turn_iso hM t
  refine Nat.eq_of_testBit_eq fun j => ?_
  rw [idleW_bit]
  rcases Nat.lt_or_ge j m.sets.length with hj | hj
  · rw [back_bit hj, idleW_bit, decide_eq_true hj, decide_eq_true (show m.sets.length - 1 - j < m.sets.length by omega), Bool.true_and, Bool.true_and]
    refine iso.idle (fun q T h => ?_) (fun p S h => ?_) ((okF_can m).1 ho) ?_
    · refine truth_congr (p := turnP m t (backQ m t q)) (q := q) hZ rfl rfl (fun g hg => ?_) h
      have hg : g < m.images.toNat := hg
      obtain ⟨g', hg', rfl⟩ : ∃ g', g' < m.images.toNat ∧ sigN m.images.toNat t g' = g := ⟨tauN m.images.toNat t g, Nat.mod_lt _ (by omega), sig_tau hg⟩
      rw [turnP_2 t _ hg', backQ_2]
    · exact truth_congr (p := backQ m t (turnP m t p)) (q := p) hM rfl rfl (fun g hg => by rw [backQ_2, turnP_2 t _ hg]) h
    · rw [turn_full]
      refine bitsB_less fun i hi => ?_
      rw [Nat.one_mul, Nat.one_mul, Nat.testBit_two_pow, Nat.testBit_two_pow]
      exact decide_eq_decide.2 (by omega)
  · rw [decide_eq_false (show ¬ j < m.sets.length by omega), Bool.false_and]
    refine (Nat.testBit_lt_two_pow (Nat.lt_of_lt_of_le (backP_lt _ _ _ (Nat.le_refl _)) (Nat.pow_le_pow_right (by omega) hj))).symm
theorem turn_seen {m : Meas} (hM : MeasOk m) (t : Nat) {g : Nat} (hg : g < m.images.toNat) : seenP (turnM m t) ((sigN m.images.toNat t g : Nat) : Int) ↔ seenP m (g : Nat) := by
  rw [full_seen, full_seen]
  have inj : ∀ g', g' < m.images.toNat → sigN m.images.toNat t g' = sigN m.images.toNat t g → g' = g := fun g' hg' h => by
    rw [← tau_sig (t := t) hg', h, tau_sig hg]
  constructor
  · rintro ⟨i, hi, _, he⟩
    rw [turnM_len] at hi
    rw [turn_at m t hi] at he
    obtain ⟨g', hg', e⟩ := img_nat hM (i := m.sets.length - 1 - i) (by omega)
    have he : sigI m t (setAt m (m.sets.length - 1 - i)).1 = _ := he
    rw [e, sigI_nat hM] at he
    have := inj g' hg' (by omega)
    exact ⟨m.sets.length - 1 - i, by omega, full_bit m (by omega), by rw [e, this]⟩
  · rintro ⟨i, hi, _, he⟩
    have hi' : m.sets.length - 1 - i < m.sets.length := by omega
    refine ⟨m.sets.length - 1 - i, by rw [turnM_len]; exact hi', full_bit _ (by rw [turnM_len]; exact hi'), ?_⟩
    rw [turn_at m t hi', show m.sets.length - 1 - (m.sets.length - 1 - i) = i from by omega]
    show sigI m t (setAt m i).1 = _
    rw [he, sigI_nat hM]
theorem turn_place {m : Meas} (hM : MeasOk m) (t : Nat) {a : Int} (ha : 0 ≤ a ∧ a ≤ m.images - 1) : placeE (turnM m t) (sigI m t a) = placeE m a := by
  obtain ⟨g, rfl⟩ : ∃ g : Nat, a = (g : Nat) := ⟨a.toNat, by omega⟩
  have hZ := turn_ok hM t
  have iso := turn_iso hM t
  have hg : g < m.images.toNat := by omega
  have hs := sig_lt hM t g
  rw [sigI_nat hM]
  have hr : 0 ≤ ((sigN m.images.toNat t g : Nat) : Int) ∧ ((sigN m.images.toNat t g : Nat) : Int) ≤ (turnM m t).images - 1 := by
    show _ ∧ _ ≤ m.images - 1
    omega
  by_cases ho : okF m
  · have hz := iso.okiff.2 ho
    by_cases hsn : seenP m (g : Nat)
    · have i1 : Img m (g : Nat) := ⟨ha, hsn⟩
      have i2 : Img (turnM m t) ((sigN m.images.toNat t g : Nat) : Int) := ⟨hr, (turn_seen hM t hg).2 hsn⟩
      have e := iso.span (place_span hM ho i1).1 (place_span hZ hz i2).1 (fun p => by rw [Int.toNat_natCast, Int.toNat_natCast, turnP_2 t p hg]; rfl) (fun q => by rw [Int.toNat_natCast, Int.toNat_natCast, backQ_2]; rfl)
      exact Prod.ext e (((place_code hZ hz).2 i2).trans ((place_code hM ho).2 i1).symm)
    · have hs' : ¬ seenP (turnM m t) ((sigN m.images.toNat t g : Nat) : Int) := fun h => hsn ((turn_seen hM t hg).1 h)
      rw [place_end hZ hz, place_end hM ho]
      have e1 : endF (turnM m t) ((sigN m.images.toNat t g : Nat) : Int) = 12 := by unfold endF; rw [if_neg (not_not_intro hr), if_pos hs']
      have e2 : endF m (g : Nat) = 12 := by unfold endF; rw [if_neg (not_not_intro ha), if_pos hsn]
      rw [e1, e2]; rfl
  · unfold placeE
    rw [if_neg (not_not_intro hZ), if_neg (not_not_intro hr), if_pos fun h => ho (iso.okiff.1 ((can_eq hZ _).1 h)), if_neg (not_not_intro hM), if_neg (not_not_intro ha), if_pos fun h => ho ((can_eq hM _).1 h)]
theorem turn_apart {m : Meas} (hM : MeasOk m) (t : Nat) {a b : Int} (ha : 0 ≤ a ∧ a ≤ m.images - 1) (hb : 0 ≤ b ∧ b ≤ m.images - 1) : apartE (turnM m t) (sigI m t a) (sigI m t b) = apartE m a b := by
  obtain ⟨g, rfl⟩ : ∃ g : Nat, a = (g : Nat) := ⟨a.toNat, by omega⟩
  obtain ⟨k, rfl⟩ : ∃ k : Nat, b = (k : Nat) := ⟨b.toNat, by omega⟩
  have hZ := turn_ok hM t
  have iso := turn_iso hM t
  have hg : g < m.images.toNat := by omega
  have hk : k < m.images.toNat := by omega
  have hs := sig_lt hM t g
  have hs2 := sig_lt hM t k
  rw [sigI_nat hM, sigI_nat hM]
  have hr : (0 ≤ ((sigN m.images.toNat t g : Nat) : Int) ∧ ((sigN m.images.toNat t g : Nat) : Int) ≤ (turnM m t).images - 1) ∧ (0 ≤ ((sigN m.images.toNat t k : Nat) : Int) ∧ ((sigN m.images.toNat t k : Nat) : Int) ≤ (turnM m t).images - 1) := by
    show (_ ∧ _ ≤ m.images - 1) ∧ (_ ∧ _ ≤ m.images - 1)
    omega
  by_cases ho : okF m
  · have hz := iso.okiff.2 ho
    by_cases hab : ((g : Nat) : Int) = (k : Nat)
    · have : g = k := by omega
      subst this
      rw [apart_eqv hZ hz hr.1, apart_eqv hM ho ha]
    · have hab' : ((sigN m.images.toNat t g : Nat) : Int) ≠ ((sigN m.images.toNat t k : Nat) : Int) := fun h => hab (by
        have h : sigN m.images.toNat t g = sigN m.images.toNat t k := by omega
        rw [← tau_sig (t := t) hg, h, tau_sig hk])
      by_cases hsn : seenP m (g : Nat) ∧ seenP m (k : Nat)
      · have i1 : Img m (g : Nat) := ⟨ha, hsn.1⟩
        have i2 : Img m (k : Nat) := ⟨hb, hsn.2⟩
        have j1 : Img (turnM m t) ((sigN m.images.toNat t g : Nat) : Int) := ⟨hr.1, (turn_seen hM t hg).2 hsn.1⟩
        have j2 : Img (turnM m t) ((sigN m.images.toNat t k : Nat) : Int) := ⟨hr.2, (turn_seen hM t hk).2 hsn.2⟩
        have e := iso.span (apart_span hM ho i1 i2 hab) (apart_span hZ hz j1 j2 hab') (fun p => by simp only [Int.toNat_natCast]; rw [turnP_2 t p hg, turnP_2 t p hk]) (fun q => by simp only [Int.toNat_natCast]; rw [backQ_2, backQ_2])
        refine Prod.ext e ?_
        rw [apart_ok hZ hz j1 j2 hab', apart_ok hM ho i1 i2 hab]
      · have hs' : ¬ (seenP (turnM m t) ((sigN m.images.toNat t g : Nat) : Int) ∧ seenP (turnM m t) ((sigN m.images.toNat t k : Nat) : Int)) := fun h => hsn ⟨(turn_seen hM t hg).1 h.1, (turn_seen hM t hk).1 h.2⟩
        unfold apartE
        rw [if_neg (not_not_intro hZ), if_neg (not_not_intro hr), if_neg (not_not_intro (okF_diag hZ hz)), if_neg hab', if_pos hs', if_neg (not_not_intro hM), if_neg (not_not_intro ⟨ha, hb⟩), if_neg (not_not_intro (okF_diag hM ho)), if_neg hab, if_pos hsn]
  · unfold apartE
    rw [if_neg (not_not_intro hZ), if_neg (not_not_intro hr), if_pos fun h => ho (iso.okiff.1 ((can_eq hZ _).1 h)), if_neg (not_not_intro hM), if_neg (not_not_intro ⟨ha, hb⟩), if_pos fun h => ho ((can_eq hM _).1 h)]
end Go.Proofs.Ytoefcofplkbnkaa
