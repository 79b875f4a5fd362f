/-
  Plain: numbers in a list, so that examples can be reckoned; the document's example.
-/
import Derived.Test.YtiaaidcdoenloaaQh
namespace Go.Proofs.Ytiaaidcdoenloaa
open ZW

abbrev LMap := List (Option Int)
def relaxL (m : LMap) (x : Lnk) : LMap × Bool :=
  match m.getD x.1 none with
  | none => (m, false)
  | some a => match m.getD x.2.1 none with
    | none => (m.set x.2.1 (some (a + x.2.2)), true)
    | some b => if a + x.2.2 < b then (m.set x.2.1 (some (a + x.2.2)), true) else (m, false)
def stepL (s : LMap × Bool) (x : Lnk) : LMap × Bool := ((relaxL s.1 x).1, s.2 || (relaxL s.1 x).2)
def narrowL (l : List Lnk) (m : LMap) : LMap × Bool := l.foldl stepL (m, false)
def roundsL (l : List Lnk) : Nat → LMap → Option LMap
  | 0, _ => none
  | k + 1, m => match narrowL l m with
    | (r, true) => roundsL l k r
    | (r, false) => some r
def startL (N s : Nat) : LMap := (List.replicate N none).set s (some 0)
def farL (N s : Nat) (l : List Lnk) : Option LMap := roundsL l (l.length + 2) (startL N s)
/-- A list says what a map says. -/
def Same (N : Nat) (m : LMap) (d : DMap) : Prop := m.length = N ∧ ∀ v, m.getD v none = d v
theorem Same.set {N : Nat} {m : LMap} {d : DMap} (h : Same N m d) {v : Nat} (hv : v < N) (a : Int) : Same N (m.set v (some a)) (setD d v a) := by
  refine ⟨by rw [List.length_set]; exact h.1, fun u => ?_⟩
  unfold setD
  by_cases hu : u = v
  · subst hu
    rw [if_pos rfl, List.getD_eq_getElem?_getD, List.getElem?_set_self (by rw [h.1]; exact hv)]; rfl
  · rw [if_neg hu, List.getD_eq_getElem?_getD, List.getElem?_set_ne (Ne.symm hu), ← List.getD_eq_getElem?_getD]; exact h.2 u
theorem Same.relax {N : Nat} {m : LMap} {d : DMap} (h : Same N m d) {x : Lnk} (hx : x.2.1 < N) : Same N (relaxL m x).1 (relaxP d x).1 ∧ (relaxL m x).2 = (relaxP d x).2 := by
  unfold relaxL relaxP
  rw [h.2 x.1, h.2 x.2.1]
  cases d x.1 with
  | none => exact ⟨h, rfl⟩
  | some a =>
    cases d x.2.1 with
    | none => exact ⟨h.set hx _, rfl⟩
    | some b =>
      simp only
      split
      · exact ⟨h.set hx _, rfl⟩
      · exact ⟨h, rfl⟩
theorem Same.fold {N : Nat} : ∀ (l : List Lnk) (s : LMap × Bool) (d : DMap × Bool), Same N s.1 d.1 → s.2 = d.2 → (∀ x ∈ l, x.2.1 < N) → Same N (l.foldl stepL s).1 (l.foldl stepN d).1 ∧ (l.foldl stepL s).2 = (l.foldl stepN d).2
  | [], _, _, h, hb, _ => ⟨h, hb⟩
  | x :: l, s, d, h, hb, hl => by
    have hr := h.relax (hl x (List.mem_cons_self ..))
    exact Same.fold l (stepL s x) (stepN d x) hr.1 (by unfold stepL stepN; rw [hb, hr.2]) fun y hy => hl y (List.mem_cons_of_mem _ hy)
theorem Same.rounds {N : Nat} {l : List Lnk} (hl : ∀ x ∈ l, x.2.1 < N) : ∀ (k : Nat) (m : LMap) (d : DMap), Same N m d → match roundsL l k m, roundsP l k d with
    | some r, some e => Same N r e
    | none, none => True
    | _, _ => False
  | 0, _, _, _ => by simp [roundsL, roundsP]
  | k + 1, m, d, h => by
    obtain ⟨h1, h2⟩ := Same.fold l (m, false) (d, false) h rfl hl
    have h1 : Same N (narrowL l m).1 (narrowP l d).1 := h1
    have h2 : (narrowL l m).2 = (narrowP l d).2 := h2
    unfold roundsL roundsP
    rcases hn : narrowL l m with ⟨r, b⟩
    rw [hn] at h1 h2
    simp only at h1 h2
    rw [← h2]
    cases b with
    | true => simpa using Same.rounds hl k r _ h1
    | false => simpa using h1
theorem Same.start {N s : Nat} (hs : s < N) : Same N (startL N s) (startD s) := by
  refine ⟨by simp [startL], fun v => ?_⟩
  unfold startL startD
  by_cases hv : v = s
  · subst hv
    rw [if_pos rfl, List.getD_eq_getElem?_getD, List.getElem?_set_self (by simpa using hs)]; rfl
  · rw [if_neg hv, List.getD_eq_getElem?_getD, List.getElem?_set_ne (Ne.symm hv), List.getElem?_replicate]
    split <;> rfl
theorem far_list {N s : Nat} {l : List Lnk} (hs : s < N) (hl : ∀ x ∈ l, x.2.1 < N) : farP s l = (farL N s l).map fun m v => m.getD v none := by
  have h := Same.rounds hl (l.length + 2) _ _ (Same.start hs)
  unfold farP farL
  revert h
  cases roundsL l (l.length + 2) (startL N s) <;> cases roundsP l (l.length + 2) (startD s) <;> simp
  intro h
  funext v
  exact (h.2 v).symm
/-- How many numbers there are. -/
def cnt (X : Wat) : Nat := 1 + X.eyes.toNat + X.images.toNat
theorem links_tgt {X : Wat} (hM : WatOk X) (S E : Nat) : ∀ x ∈ linksP X S E, x.1 < cnt X ∧ x.2.1 < cnt X := by
  intro x hx
  unfold cnt
  rcases List.mem_append.1 hx with hx | hx
  · obtain ⟨i, hi, hx⟩ := habs_mem.1 hx
    rcases tieP_mem hx with rfl | rfl <;> simp only <;> omega
  · obtain ⟨i, hi, hs, hx'⟩ := loks_mem.1 hx
    have h1 := look_eye hM hi
    have h2 := (hM.l _ (getD_mem hi look0)).2.2
    rcases tieP_mem hx' with rfl | rfl <;> simp only <;> omega
def canL (X : Wat) (S E : Nat) : Bool := (farL (cnt X) 0 (linksP X S E)).isSome
theorem can_list {X : Wat} (hM : WatOk X) (S E : Nat) : canB X S E = canL X S E := by
  unfold canB canL
  rw [far_list (N := cnt X) (by unfold cnt; omega) fun x hx => (links_tgt hM S E x hx).2]
  simp
def betwL (X : Wat) (i k : Nat) : Option ((Int × Int) × Bool) := match farL (cnt X) i (allL X), farL (cnt X) k (allL X) with
  | some m, some n => some ((-((n.getD i none).getD 0), (m.getD k none).getD 0), (m.getD k none).isSome)
  | _, _ => none
theorem betw_list {X : Wat} (hM : WatOk X) {i k : Nat} (hi : i < cnt X) (hk : k < cnt X) : betwP X i k = betwL X i k := by
  unfold betwP betwL
  rw [far_list hi fun x hx => (links_tgt hM _ _ x hx).2, far_list hk fun x hx => (links_tgt hM _ _ x hx).2]
  cases farL (cnt X) i (allL X) <;> cases farL (cnt X) k (allL X) <;> rfl
theorem best_congr {p q : Nat → Bool} (h : ∀ s, p s = q s) (n : Nat) : bestS p n = bestS q n := by rw [show p = q from funext h]

/-! ### The document's example -/
def looksV : List (Int × Int × Int) := [(0, 0, 500), (1, 0, 512), (0, 1, 1200), (1, 1, 1213), (2, 1, 1203)]
def samOf (l : List (Int × Int × Int)) (h : Int × Int) : Wat := ⟨[(-2, 2), (0, 5), (1, 1), (-4, 0)], (-3, 3), 2, 3, h, l⟩
def sam : Wat := samOf looksV (-20, 20)
def sam6 : Wat := samOf (looksV ++ [(2, 0, 560)]) (-20, 20)
def samY : Wat := samOf looksV (0, 20)
theorem sam_ok : WatOk sam := of_decide_eq_true (by kernel_rfl)
theorem sam6_ok : WatOk sam6 := of_decide_eq_true (by kernel_rfl)
theorem samY_ok : WatOk samY := of_decide_eq_true (by kernel_rfl)
theorem v_habit : habitE sam 0 = ((-18, 20), 0) := by
  unfold habitE
  rw [if_neg (not_not_intro sam_ok), if_neg (by decide), betw_list sam_ok (by decide) (by decide), show betwL sam 0 (1 + (0 : Int).toNat) = some ((-18, 20), true) from by kernel_rfl]
theorem v_betw : betwE sam 0 2 = ((-14, 8), 0) := by
  unfold betwE
  rw [if_neg (not_not_intro sam_ok), if_neg (by decide), betw_list sam_ok (by decide) (by decide), show betwL sam (1 + (0 : Int).toNat) (1 + (2 : Int).toNat) = some ((-14, 8), true) from by kernel_rfl]
theorem v_place : placeE sam 0 = ((487, 525), 0) := by
  unfold placeE
  rw [if_neg (not_not_intro sam_ok), if_neg (by decide), betw_list sam_ok (by decide) (by decide), show betwL sam 0 (1 + sam.eyes.toNat + (0 : Int).toNat) = some ((487, 525), true) from by kernel_rfl]
  rfl
theorem v_expl : explE sam = (1, 0) := by
  unfold explE
  rw [if_neg (not_not_intro sam_ok), if_neg (not_not_intro (by rw [can_list sam_ok]; kernel_rfl)), best_congr (p := explS sam) (q := fun s => canL sam (allS sam) s) (fun s => can_list sam_ok _ s), show bestS (fun s => canL sam (allS sam) s) (allE sam + 1) = some 1 from by kernel_rfl]
  rfl
theorem v_clash : clashE sam6 = (33, 0) := by
  unfold clashE
  rw [if_neg (not_not_intro sam6_ok), if_neg (by rw [can_list sam6_ok]; show ¬ canL sam6 (allS sam6) (allE sam6) = true; rw [show canL sam6 (allS sam6) (allE sam6) = false from by kernel_rfl]; decide), best_congr (q := fun s => !canL sam6 s (allE sam6)) (fun s => by unfold clashS; rw [can_list sam6_ok]), show bestS (fun s => !canL sam6 s (allE sam6)) (allS sam6 + 1) = some 33 from by kernel_rfl]
  rfl
theorem v_drop : dropE sam6 = (32, 0) := by
  unfold dropE
  rw [if_neg (not_not_intro sam6_ok), best_congr (q := fun s => canL sam6 (less (allS sam6) s) (allE sam6)) (fun s => by unfold dropS; rw [can_list sam6_ok]), show bestS (fun s => canL sam6 (less (allS sam6) s) (allE sam6)) (allS sam6 + 1) = some 32 from by kernel_rfl]
  rfl
def habL (X : Wat) (m : Nat) : Int × Int := ((betwL X 0 (1 + m)).getD ((0, 0), false)).1
theorem v_sure : sureE samY = (1, 0) := by
  unfold sureE
  rw [if_neg (not_not_intro samY_ok), if_neg (not_not_intro (by rw [can_list samY_ok]; kernel_rfl))]
  have h : ∀ m, 1 + m < cnt samY → habP samY m = habL samY m := fun m hm => by unfold habP habL; rw [betw_list samY_ok (by decide) hm]
  have e : sureW samY 3 = 1 := by
    rw [sureW_succ, sureW_succ, sureW_succ, h 0 (by decide), h 1 (by decide), h 2 (by decide)]
    kernel_rfl
  rw [show samY.eyes.toNat = 3 from rfl, e]
  rfl
end Go.Proofs.Ytiaaidcdoenloaa
