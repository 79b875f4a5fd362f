/-
  Plain law of watches: measurers, images and looks numbered otherwise.
-/
import Derived.Test.YtiaaidcdoenloaaTe
namespace Go.Proofs.Ytiaaidcdoenloaa
open ZW

/-! ### A set from behind -/
def bitsB (n : Nat) (S T : Nat) : Prop := ∀ i, i < n → T.testBit i = S.testBit (n - 1 - i)
def backP (S n k : Nat) : Nat := (List.range k).foldl (fun o i => o ||| (S / 2 ^ i &&& 1) * 2 ^ (n - 1 - i)) 0
theorem backP_succ (S n k : Nat) : backP S n (k + 1) = backP S n k ||| (S / 2 ^ k &&& 1) * 2 ^ (n - 1 - k) := range_foldl_succ _ _ _
theorem bit_mul (S i j : Nat) : (S / 2 ^ i &&& 1) * 2 ^ j = if S.testBit i = true then 2 ^ j else 0 := by
  rw [Nat.testBit_eq_decide_div_mod_eq, Nat.and_one_is_mod]
  have : S / 2 ^ i % 2 < 2 := Nat.mod_lt _ (by decide)
  by_cases h : S / 2 ^ i % 2 = 1
  · rw [h]; simp
  · have h0 : S / 2 ^ i % 2 = 0 := by omega
    rw [h0]; simp
theorem backP_bit (S n j : Nat) : ∀ k, (backP S n k).testBit j = true ↔ ∃ i, i < k ∧ S.testBit i = true ∧ n - 1 - i = j
  | 0 => by simp [backP]
  | k + 1 => by
    have ih := backP_bit S n j k
    rw [backP_succ, Nat.testBit_or, Bool.or_eq_true, ih, bit_mul]
    constructor
    · rintro (⟨i, hi, h⟩ | h)
      · exact ⟨i, by omega, h⟩
      · by_cases hb : S.testBit k = true
        · rw [if_pos hb, Nat.testBit_two_pow, decide_eq_true_eq] at h
          exact ⟨k, by omega, hb, h⟩
        · rw [if_neg hb] at h; simp at h
    · rintro ⟨i, hi, hb, he⟩
      rcases Nat.lt_or_ge i k with h | h
      · exact .inl ⟨i, h, hb, he⟩
      · obtain rfl : i = k := by omega
        right
        rw [if_pos hb, Nat.testBit_two_pow, decide_eq_true_eq]; exact he
theorem backP_lt (S n : Nat) : ∀ k, k ≤ n → backP S n k < 2 ^ n
  | 0, _ => by simp [backP]; exact Nat.two_pow_pos n
  | k + 1, hk => by
    rw [backP_succ]
    refine Nat.or_lt_two_pow (backP_lt S n k (by omega)) ?_
    rw [bit_mul]
    split
    · exact Nat.pow_lt_pow_right (by omega) (by omega)
    · exact Nat.two_pow_pos n
theorem back_pop : ∀ n, n < 13 → ∀ S, S < 2 ^ n → popc (backP S n n) = popc S := by
  have h : ((List.range 13).all fun n => (List.range (2 ^ n)).all fun S => decide (popc (backP S n n) = popc S)) = true := by kernel_rfl
  intro n hn S hS
  have := List.all_eq_true.1 (List.all_eq_true.1 h n (List.mem_range.2 hn)) S (List.mem_range.2 hS)
  exact of_decide_eq_true this
theorem back_bit {S n i : Nat} (hi : i < n) : (backP S n n).testBit i = S.testBit (n - 1 - i) := by
  refine Bool.eq_iff_iff.2 ?_
  rw [backP_bit]
  constructor
  · rintro ⟨j, hj, hb, he⟩
    rw [show n - 1 - i = j from by omega]; exact hb
  · intro h; exact ⟨n - 1 - i, by omega, h, by omega⟩
theorem bitsB_back (n S : Nat) : bitsB n S (backP S n n) := fun _ hi => back_bit hi
theorem bitsB_fore (n T : Nat) : bitsB n (backP T n n) T := fun i hi => by rw [back_bit (by omega), show n - 1 - (n - 1 - i) = i from by omega]

/-! ### Numbers otherwise -/
def sigN (N t g : Nat) : Nat := (g + t) % N
def tauN (N t g : Nat) : Nat := (g + (N - t % N)) % N
theorem tau_sig {N t g : Nat} (hg : g < N) : tauN N t (sigN N t g) = g := by
  unfold tauN sigN
  have hlt := Nat.mod_lt t (show 0 < N by omega)
  have hd := Nat.div_add_mod t N
  rw [Nat.mod_add_mod, show g + t + (N - t % N) = g + N * (t / N + 1) from by rw [Nat.mul_add]; omega, Nat.add_mul_mod_self_left, Nat.mod_eq_of_lt hg]
theorem sig_tau {N t g : Nat} (hg : g < N) : sigN N t (tauN N t g) = g := by
  unfold tauN sigN
  have hlt := Nat.mod_lt t (show 0 < N by omega)
  have hd := Nat.div_add_mod t N
  rw [Nat.mod_add_mod, show g + (N - t % N) + t = g + N * (t / N + 1) from by rw [Nat.mul_add]; omega, Nat.add_mul_mod_self_left, Nat.mod_eq_of_lt hg]
theorem sig_lt {N : Nat} (hN : 0 < N) (t g : Nat) : sigN N t g < N := Nat.mod_lt _ hN
theorem tau_lt {N : Nat} (hN : 0 < N) (t g : Nat) : tauN N t g < N := Nat.mod_lt _ hN
/-- A set of numbers, numbered otherwise. -/
def rotP (N t E k : Nat) : Nat := (List.range k).foldl (fun o i => if E.testBit i = true then o ||| 2 ^ sigN N t i else o) 0
theorem rotP_bit (N t E j : Nat) : ∀ k, (rotP N t E k).testBit j = true ↔ ∃ i, i < k ∧ E.testBit i = true ∧ sigN N t i = j
  | 0 => by simp [rotP]
  | k + 1 => by
    have ih := rotP_bit N t E j k
    rw [show rotP N t E (k + 1) = _ from range_foldl_succ _ _ _]
    constructor
    · intro h
      split at h
      · rename_i hb
        rw [Nat.testBit_or, Bool.or_eq_true, Nat.testBit_two_pow, decide_eq_true_eq] at h
        rcases h with h | h
        · obtain ⟨i, hi, h⟩ := ih.1 h; exact ⟨i, by omega, h⟩
        · exact ⟨k, by omega, hb, h⟩
      · obtain ⟨i, hi, h⟩ := ih.1 h; exact ⟨i, by omega, h⟩
    · rintro ⟨i, hi, hb, he⟩
      rcases Nat.lt_or_ge i k with h | h
      · have := ih.2 ⟨i, h, hb, he⟩
        split
        · rw [Nat.testBit_or, Bool.or_eq_true]; exact .inl this
        · exact this
      · obtain rfl : i = k := by omega
        rw [if_pos hb, Nat.testBit_or, Bool.or_eq_true, Nat.testBit_two_pow, decide_eq_true_eq]; exact .inr he
def bitsR (N t E F : Nat) : Prop := ∀ m, m < N → F.testBit (sigN N t m) = E.testBit m
theorem bitsR_rot (N t E : Nat) : bitsR N t E (rotP N t E N) := fun m hm => by
  refine Bool.eq_iff_iff.2 ?_
  rw [rotP_bit]
  constructor
  · rintro ⟨i, hi, hb, he⟩
    have h1 := tau_sig (t := t) hi
    rw [he, tau_sig hm] at h1
    rw [h1]; exact hb
  · intro h; exact ⟨m, hm, h, rfl⟩
theorem rot_pop : ∀ N, N < 5 → ∀ t, t < N → ∀ E, E < 16 → popc (rotP N t E N) ≤ popc E := by
  have h : ((List.range 5).all fun N => (List.range N).all fun t => (List.range 16).all fun E => decide (popc (rotP N t E N) ≤ popc E)) = true := by kernel_rfl
  intro N hN t ht E hE
  have := List.all_eq_true.1 (List.all_eq_true.1 (List.all_eq_true.1 h N (List.mem_range.2 hN)) t (List.mem_range.2 ht)) E (List.mem_range.2 hE)
  exact of_decide_eq_true this
theorem sigN_mod (N t g : Nat) : sigN N (t % N) g = sigN N t g := by unfold sigN; exact Nat.add_mod_mod ..
theorem rotP_mod (N t E k : Nat) : rotP N (t % N) E k = rotP N t E k := by unfold rotP; simp only [sigN_mod]
theorem rot_popc {N E : Nat} (h0 : 0 < N) (hN : N < 5) (t : Nat) (hE : E < 16) : popc (rotP N t E N) ≤ popc E := by
  rw [← rotP_mod]; exact rot_pop N hN _ (Nat.mod_lt _ h0) E hE
/-- The other way round. -/
theorem bitsR_inv {N t E : Nat} : bitsR N t (rotP N (N - t % N) E N) E := fun m hm => by
  have h := bitsR_rot N (N - t % N) E (sigN N t m) (sig_lt (by omega) t m)
  have e : sigN N (N - t % N) (sigN N t m) = m := by
    have := tau_sig (N := N) (t := t) hm
    unfold tauN at this; unfold sigN at this ⊢; exact this
  rw [e] at h; exact h.symm
theorem rot_lt {N t E : Nat} (h0 : 0 < N) : rotP N t E N < 2 ^ N := by
  have : rotP N t E N ≤ 2 ^ N - 1 := bits_le fun i hi => by
    obtain ⟨j, hj, _, rfl⟩ := (rotP_bit N t E i N).1 hi
    rw [Nat.testBit_two_pow_sub_one]; simpa using sig_lt h0 t j
  have := Nat.two_pow_pos N
  omega

/-! ### A watch with other numbers -/
abbrev eN (X : Wat) : Nat := X.eyes.toNat
abbrev iN (X : Wat) : Nat := X.images.toNat
def turnK (X : Wat) (a b : Nat) (l : Int × Int × Int) : Int × Int × Int := (((sigN (eN X) a l.1.toNat : Nat) : Int), ((sigN (iN X) b l.2.1.toNat : Nat) : Int), l.2.2)
def turnL (X : Wat) (a b k : Nat) : List (Int × Int × Int) := (List.range k).map fun j => turnK X a b (lkAt X (X.looks.length - 1 - j))
def turnW (X : Wat) (a b : Nat) : Wat := { X with looks := turnL X a b X.looks.length }
theorem turnL_succ (X : Wat) (a b k : Nat) : turnL X a b (k + 1) = turnL X a b k ++ [turnK X a b (lkAt X (X.looks.length - 1 - k))] := by unfold turnL; rw [List.range_succ, List.map_append]; rfl
theorem turnL_len (X : Wat) (a b k : Nat) : (turnL X a b k).length = k := by simp [turnL]
theorem turnW_len (X : Wat) (a b : Nat) : (turnW X a b).looks.length = X.looks.length := turnL_len X a b _
theorem turn_at (X : Wat) (a b : Nat) {i : Nat} (hi : i < X.looks.length) : lkAt (turnW X a b) i = turnK X a b (lkAt X (X.looks.length - 1 - i)) := by
  have : i < (turnW X a b).looks.length := by rw [turnW_len]; exact hi
  unfold lkAt
  rw [← List.getElem_eq_getD (h := this)]
  simp [turnW, turnL, lkAt]
theorem eN_pos {X : Wat} (hM : WatOk X) : 0 < eN X ∧ eN X < 5 ∧ ((eN X : Nat) : Int) = X.eyes := by have := hM.e; unfold eN; omega
theorem iN_pos {X : Wat} (hM : WatOk X) : 0 < iN X ∧ iN X < 7 ∧ ((iN X : Nat) : Int) = X.images := by have := hM.i; unfold iN; omega
theorem turn_ok {X : Wat} (hM : WatOk X) (a b : Nat) : WatOk (turnW X a b) := by
  refine ⟨⟨hM.s.n, hM.s.e, hM.s.y⟩, hM.i, hM.e, hM.h, hM.k, by rw [turnW_len]; exact hM.n, fun x hx => ?_⟩
  obtain ⟨j, hj, rfl⟩ := List.mem_map.1 hx
  have hj := List.mem_range.1 hj
  have hl := (hM.l _ (lkAt_mem (X := X) (i := X.looks.length - 1 - j) (by omega))).1
  have h1 := eN_pos hM
  have h2 := iN_pos hM
  have h3 := sig_lt h1.1 a (lkAt X (X.looks.length - 1 - j)).1.toNat
  have h4 := sig_lt h2.1 b (lkAt X (X.looks.length - 1 - j)).2.1.toNat
  refine ⟨hl, ?_, ?_⟩
  · show 0 ≤ ((sigN (eN X) a (lkAt X (X.looks.length - 1 - j)).1.toNat : Nat) : Int) ∧ ((sigN (eN X) a (lkAt X (X.looks.length - 1 - j)).1.toNat : Nat) : Int) ≤ X.eyes - 1
    omega
  · show 0 ≤ ((sigN (iN X) b (lkAt X (X.looks.length - 1 - j)).2.1.toNat : Nat) : Int) ∧ ((sigN (iN X) b (lkAt X (X.looks.length - 1 - j)).2.1.toNat : Nat) : Int) ≤ X.images - 1
    omega
/-- Where a number goes, and where it comes from. -/
def rho (X : Wat) (a b v : Nat) : Nat := if v = 0 then 0 else if v ≤ eN X then 1 + sigN (eN X) a (v - 1) else 1 + eN X + sigN (iN X) b (v - 1 - eN X)
def rhoI (X : Wat) (a b v : Nat) : Nat := if v = 0 then 0 else if v ≤ eN X then 1 + tauN (eN X) a (v - 1) else 1 + eN X + tauN (iN X) b (v - 1 - eN X)
theorem rho_0 (X : Wat) (a b : Nat) : rho X a b 0 = 0 := rfl
theorem rho_e {X : Wat} (a b : Nat) {m : Nat} (hm : m < eN X) : rho X a b (1 + m) = 1 + sigN (eN X) a m := by
  unfold rho; rw [if_neg (by omega), if_pos (by omega), show 1 + m - 1 = m from by omega]
theorem rho_i {X : Wat} (a b : Nat) (i : Nat) : rho X a b (1 + eN X + i) = 1 + eN X + sigN (iN X) b i := by
  unfold rho; rw [if_neg (by omega), if_neg (by omega), show 1 + eN X + i - 1 - eN X = i from by omega]
theorem rhoI_0 (X : Wat) (a b : Nat) : rhoI X a b 0 = 0 := rfl
theorem rhoI_e {X : Wat} (a b : Nat) {m : Nat} (hm : m < eN X) : rhoI X a b (1 + m) = 1 + tauN (eN X) a m := by
  unfold rhoI; rw [if_neg (by omega), if_pos (by omega), show 1 + m - 1 = m from by omega]
theorem rhoI_i {X : Wat} (a b : Nat) (i : Nat) : rhoI X a b (1 + eN X + i) = 1 + eN X + tauN (iN X) b i := by
  unfold rhoI; rw [if_neg (by omega), if_neg (by omega), show 1 + eN X + i - 1 - eN X = i from by omega]
theorem look_img {X : Wat} (hM : WatOk X) {i : Nat} (hi : i < X.looks.length) : (lkAt X i).2.1.toNat < iN X := by
  have := (hM.l _ (lkAt_mem hi)).2.2; have := hM.i; unfold iN; omega
/-- From truths of the other one. -/
theorem turn_bwd {X : Wat} (hM : WatOk X) {a b S T E F : Nat} {q : Nat → Int} (hb : bitsB X.looks.length S T) (hr : bitsR (eN X) a E F) (h : Tru (turnW X a b) T F q) : Tru X S E fun v => q (rho X a b v) := by
  have h := tru_set.1 h
  refine tru_set.2 ⟨fun m hm => ?_, fun i hi hS => ?_⟩
  · have h1 := h.1 (sigN (eN X) a m) (sig_lt (eN_pos hM).1 a m)
    have e : habOf (turnW X a b) F (sigN (eN X) a m) = habOf X E m := by unfold habOf; rw [hr m hm]; rfl
    rw [e] at h1
    simp only [rho_0, rho_e a b hm]
    exact h1
  · have hj : X.looks.length - 1 - i < X.looks.length := by omega
    have h1 := h.2 (X.looks.length - 1 - i) (by rw [turnW_len]; exact hj) (by rw [hb _ hj, show X.looks.length - 1 - (X.looks.length - 1 - i) = i from by omega]; exact hS)
    rw [turn_at X a b hj, show X.looks.length - 1 - (X.looks.length - 1 - i) = i from by omega] at h1
    have hm := lk_eye hM hi
    unfold LookQ at h1 ⊢
    simp only [turnK, Int.toNat_natCast] at h1
    have e1 := rho_e (X := X) a b hm
    have e2 := rho_i (X := X) a b (lkAt X i).2.1.toNat
    unfold eN at e1 e2
    simp only [e1, e2]
    exact h1
/-- And into them. -/
theorem turn_fwd {X : Wat} (hM : WatOk X) {a b S T E F : Nat} {q : Nat → Int} (hb : bitsB X.looks.length S T) (hr : bitsR (eN X) a E F) (h : Tru X S E q) : Tru (turnW X a b) T F fun v => q (rhoI X a b v) := by
  have h := tru_set.1 h
  refine tru_set.2 ⟨fun m' hm' => ?_, fun j hj hT => ?_⟩
  · have hm' : m' < eN X := hm'
    have ht := tau_lt (eN_pos hM).1 a m'
    have h1 := h.1 (tauN (eN X) a m') ht
    have e : habOf (turnW X a b) F m' = habOf X E (tauN (eN X) a m') := by
      have := hr (tauN (eN X) a m') ht
      rw [sig_tau hm'] at this
      unfold habOf; rw [this]; rfl
    rw [e]
    simp only [rhoI_0, rhoI_e a b hm']
    exact h1
  · rw [turnW_len] at hj
    have hi : X.looks.length - 1 - j < X.looks.length := by omega
    have h1 := h.2 (X.looks.length - 1 - j) hi (by rw [← hb j hj]; exact hT)
    rw [turn_at X a b hj]
    have hm := lk_eye hM hi
    have hg := look_img hM hi
    have e1 := rhoI_e (X := X) a b (sig_lt (eN_pos hM).1 a (lkAt X (X.looks.length - 1 - j)).1.toNat)
    have e2 := rhoI_i (X := X) a b (sigN (iN X) b (lkAt X (X.looks.length - 1 - j)).2.1.toNat)
    rw [tau_sig hm] at e1
    rw [tau_sig hg] at e2
    unfold LookQ at h1 ⊢
    have e3 : (turnW X a b).eyes = X.eyes := rfl
    rw [e3]
    unfold eN at e1 e2
    simp only [turnK, Int.toNat_natCast, e1, e2]
    exact h1
theorem bitsB_all (X : Wat) (a b : Nat) : bitsB X.looks.length (allS X) (allS (turnW X a b)) := fun i hi => by
  rw [allS_bit (X := turnW X a b) (by rw [turnW_len]; exact hi), allS_bit (by omega)]
theorem bitsR_all {X : Wat} (hM : WatOk X) (a b : Nat) : bitsR (eN X) a (allE X) (allE (turnW X a b)) := fun m hm => by
  rw [allE_bit hm, allE_bit (X := turnW X a b) (sig_lt (eN_pos hM).1 a m)]
theorem turn_okW {X : Wat} (hM : WatOk X) (a b : Nat) : okW (turnW X a b) ↔ okW X :=
  ⟨fun ⟨_, h⟩ => ⟨_, turn_bwd hM (bitsB_all X a b) (bitsR_all hM a b) h⟩, fun ⟨_, h⟩ => ⟨_, turn_fwd hM (bitsB_all X a b) (bitsR_all hM a b) h⟩⟩
theorem turn_span {X : Wat} (hM : WatOk X) {a b u v u' v' : Nat} {s : Int × Int} (h : SpanA X u v s) (hu : rho X a b u = u' ∧ rhoI X a b u' = u) (hv : rho X a b v = v' ∧ rhoI X a b v' = v) : SpanA (turnW X a b) u' v' s := by
  obtain ⟨q1, t1, e1⟩ := h.lo
  obtain ⟨q2, t2, e2⟩ := h.hi
  refine ⟨fun q hq => ?_, ⟨_, turn_fwd hM (bitsB_all X a b) (bitsR_all hM a b) t1, ?_⟩, ⟨_, turn_fwd hM (bitsB_all X a b) (bitsR_all hM a b) t2, ?_⟩⟩
  · have := h.all _ (turn_bwd hM (bitsB_all X a b) (bitsR_all hM a b) hq)
    simp only [hu.1, hv.1] at this
    exact this
  · simp only [hu.2, hv.2]; exact e1
  · simp only [hu.2, hv.2]; exact e2
theorem turn_e {X : Wat} (hM : WatOk X) (a b : Nat) {m : Nat} (hm : m < eN X) : rho X a b (1 + m) = 1 + sigN (eN X) a m ∧ rhoI X a b (1 + sigN (eN X) a m) = 1 + m :=
  ⟨rho_e a b hm, by rw [rhoI_e a b (sig_lt (eN_pos hM).1 a m), tau_sig hm]⟩
theorem turn_i {X : Wat} (a b : Nat) {i : Nat} (hi : i < iN X) : rho X a b (1 + eN X + i) = 1 + eN X + sigN (iN X) b i ∧ rhoI X a b (1 + eN X + sigN (iN X) b i) = 1 + eN X + i :=
  ⟨rho_i a b i, by rw [rhoI_i a b, tau_sig hi]⟩
theorem turn_hab {X : Wat} (hM : WatOk X) (ho : okW X) (a b : Nat) {m : Nat} (hm : m < eN X) : habP (turnW X a b) (sigN (eN X) a m) = habP X m :=
  (habP_span (turn_ok hM a b) ((turn_okW hM a b).2 ho) (sig_lt (eN_pos hM).1 a m)).unique (turn_span hM (habP_span hM ho hm) ⟨rho_0 X a b, rhoI_0 X a b⟩ (turn_e hM a b hm))
theorem turn_bet {X : Wat} (hM : WatOk X) (ho : okW X) (a b : Nat) {m k : Nat} (hm : m < eN X) (hk : k < eN X) : betP (turnW X a b) (sigN (eN X) a m) (sigN (eN X) a k) = betP X m k :=
  (betP_span (turn_ok hM a b) ((turn_okW hM a b).2 ho) (sig_lt (eN_pos hM).1 a m) (sig_lt (eN_pos hM).1 a k)).unique (turn_span hM (betP_span hM ho hm hk) (turn_e hM a b hm) (turn_e hM a b hk))
theorem turn_seen {X : Wat} (hM : WatOk X) (a b : Nat) {i : Nat} (hi : i < iN X) : seenI (turnW X a b) (sigN (iN X) b i) ↔ seenI X i := by
  constructor
  · rintro ⟨j, hj, he⟩
    rw [turnW_len] at hj
    rw [turn_at X a b hj] at he
    have hj' : X.looks.length - 1 - j < X.looks.length := by omega
    simp only [turnK, Int.toNat_natCast] at he
    refine ⟨_, hj', ?_⟩
    have h1 := tau_sig (t := b) (look_img hM hj')
    rw [he, tau_sig hi] at h1
    exact h1.symm
  · rintro ⟨j, hj, he⟩
    have hj' : X.looks.length - 1 - j < X.looks.length := by omega
    refine ⟨X.looks.length - 1 - j, by rw [turnW_len]; exact hj', ?_⟩
    rw [turn_at X a b hj', show X.looks.length - 1 - (X.looks.length - 1 - j) = j from by omega]
    simp only [turnK, Int.toNat_natCast, he]
theorem turn_pla {X : Wat} (hM : WatOk X) (ho : okW X) (a b : Nat) {i : Nat} (hi : i < iN X) (hs : seenI X i) : plaP (turnW X a b) (sigN (iN X) b i) = plaP X i :=
  (plaP_span (turn_ok hM a b) ((turn_okW hM a b).2 ho) ((turn_seen hM a b hi).2 hs)).unique (turn_span hM (plaP_span hM ho hs) ⟨rho_0 X a b, rhoI_0 X a b⟩ (turn_i a b hi))
theorem turn_sure {X : Wat} (hM : WatOk X) (ho : okW X) (a b : Nat) {m : Nat} (hm : m < eN X) : (sureN (turnW X a b)).testBit (sigN (eN X) a m) = (sureN X).testBit m := by
  refine Bool.eq_iff_iff.2 ?_
  rw [sureN_bit hm, sureN_bit (X := turnW X a b) (sig_lt (eN_pos hM).1 a m), turn_hab hM ho a b hm]
theorem turn_can {X : Wat} (hM : WatOk X) (a b : Nat) {S T : Nat} (hb : bitsB X.looks.length S T) : canQ (turnW X a b) T ↔ canQ X S :=
  ⟨fun ⟨_, h⟩ => ⟨_, turn_bwd hM hb (bitsR_all hM a b) h⟩, fun ⟨_, h⟩ => ⟨_, turn_fwd hM hb (bitsR_all hM a b) h⟩⟩
theorem turn_allS (X : Wat) (a b : Nat) : allS (turnW X a b) = allS X := by unfold allS; rw [turnW_len]
theorem allS_pow {X : Wat} {S : Nat} (h : S ≤ allS X) : S < 2 ^ X.looks.length := by
  have := Nat.two_pow_pos X.looks.length
  unfold allS at h; omega
theorem back_le (X : Wat) (S : Nat) : backP S X.looks.length X.looks.length ≤ allS X := by
  have := backP_lt S X.looks.length X.looks.length (Nat.le_refl _)
  unfold allS; omega
theorem bitsB_less {X : Wat} {S T : Nat} (h : bitsB X.looks.length S T) : bitsB X.looks.length (less (allS X) S) (less (allS X) T) := fun i hi => by
  rw [less_bit, less_bit, allS_bit hi, allS_bit (show X.looks.length - 1 - i < X.looks.length by omega), h i hi]
theorem turn_clash {X : Wat} (hM : WatOk X) (a b : Nat) : popc (clashN (turnW X a b)) = popc (clashN X) := by
  have hZ := turn_ok hM a b
  have cm := set_facts hM
  have cz := set_facts hZ
  have hN := hM.n
  by_cases ho : okW X
  · rw [cm.c0.1 ho, cz.c0.1 ((turn_okW hM a b).2 ho)]
  · have l2 : clashN (turnW X a b) ≤ allS X := by have := cz.cle; rwa [turn_allS] at this
    have h1 := cz.cmin (backP (clashN X) X.looks.length X.looks.length) (by rw [turn_allS]; exact back_le X _) fun h => cm.cbad ho ((turn_can hM a b (bitsB_back _ _)).1 h)
    have h2 := cm.cmin (backP (clashN (turnW X a b)) X.looks.length X.looks.length) (back_le X _) fun h => cz.cbad (fun h => ho ((turn_okW hM a b).1 h)) ((turn_can hM a b (bitsB_fore _ _)).2 h)
    rw [back_pop _ (by omega) _ (allS_pow cm.cle)] at h1
    rw [back_pop _ (by omega) _ (allS_pow l2)] at h2
    omega
theorem turn_drop {X : Wat} (hM : WatOk X) (a b : Nat) : popc (dropN (turnW X a b)) = popc (dropN X) := by
  have hZ := turn_ok hM a b
  have cm := set_facts hM
  have cz := set_facts hZ
  have hN := hM.n
  have l2 : dropN (turnW X a b) ≤ allS X := by have := cz.dle; rwa [turn_allS] at this
  have h1 := cz.dmin (backP (dropN X) X.looks.length X.looks.length) (by rw [turn_allS]; exact back_le X _) (by
    rw [turn_allS]
    exact (turn_can hM a b (bitsB_less (bitsB_back _ _))).2 cm.dcan)
  have h2 := cm.dmin (backP (dropN (turnW X a b)) X.looks.length X.looks.length) (back_le X _) (by
    have := cz.dcan
    rw [turn_allS] at this
    exact (turn_can hM a b (bitsB_less (bitsB_fore _ _))).1 this)
  rw [back_pop _ (by omega) _ (allS_pow cm.dle)] at h1
  rw [back_pop _ (by omega) _ (allS_pow l2)] at h2
  omega
theorem turn_expl {X : Wat} (hM : WatOk X) (ho : okW X) (a b : Nat) : popc (explN (turnW X a b)) = popc (explN X) := by
  have hZ := turn_ok hM a b
  have cm := expl_facts hM ho
  have cz := expl_facts hZ ((turn_okW hM a b).2 ho)
  have hp := eN_pos hM
  have hlt := allE_lt hM
  have ae : allE (turnW X a b) = allE X := rfl
  have hr : ∀ t E, rotP (eN X) t E (eN X) ≤ allE X := fun t E => by
    have := rot_lt (N := eN X) (t := t) (E := E) hp.1
    show rotP (eN X) t E (eN X) ≤ 2 ^ eN X - 1
    omega
  obtain ⟨q1, h1⟩ := cm.can
  obtain ⟨q2, h2⟩ := cz.can
  have k1 := cz.min _ (hr a (explN X)) ⟨_, turn_fwd hM (bitsB_all X a b) (bitsR_rot (eN X) a (explN X)) h1⟩
  have k2 := cm.min _ (hr (eN X - a % eN X) (explN (turnW X a b))) ⟨_, turn_bwd hM (bitsB_all X a b) bitsR_inv h2⟩
  have l1 := rot_popc hp.1 hp.2.1 a (E := explN X) (by have := cm.le; omega)
  have l2 := rot_popc hp.1 hp.2.1 (eN X - a % eN X) (E := explN (turnW X a b)) (by have := cz.le; omega)
  omega
end Go.Proofs.Ytiaaidcdoenloaa
