/-
  Plain law: measurers without habits measure as a screw does, with the plate in one position.
-/
import Derived.Test.YtiaaidcdoenloaaTf
import Derived.Test.YtiaaidcdoenloaaScrD
namespace Go.Proofs.Ytiaaidcdoenloaa
open ZW

/-- The measure of a watch. -/
abbrev aloneS (l : Int × Int × Int) : Int × Int × Bool := (l.2.1, l.2.2, false)
def aloneM (X : Wat) : Scr.Meas := ⟨X.errs, X.eyeS, X.images, (0, 131072), X.looks.map aloneS⟩
theorem alone_len (X : Wat) : (aloneM X).sets.length = X.looks.length := by simp [aloneM]
theorem alone_at {X : Wat} {i : Nat} (hi : i < X.looks.length) : Scr.setAt (aloneM X) i = aloneS (lkAt X i) := by
  unfold Scr.setAt lkAt
  rw [← List.getElem_eq_getD (h := hi), ← List.getElem_eq_getD (h := by rw [alone_len]; exact hi)]
  simp [aloneM]
theorem alone_ok {X : Wat} (hM : WatOk X) : Scr.MeasOk (aloneM X) := by
  refine ⟨⟨hM.s.n, hM.s.e, hM.s.y⟩, hM.i, ?_, by rw [alone_len]; exact hM.n, fun x hx => ?_⟩
  · show Scr.spanOk 0 131072 (0, 131072)
    unfold Scr.spanOk; decide
  · obtain ⟨l, hl, rfl⟩ := List.mem_map.1 hx
    have h := hM.l l hl
    exact ⟨h.2.2, h.1⟩
theorem alone_full (X : Wat) : Scr.fullS (aloneM X) = allS X := by unfold Scr.fullS allS; rw [alone_len]
def toP (X : Wat) (q : Nat → Int) (k : Nat) : Int := if k < 2 then q 0 else q (1 + X.eyes.toNat + (k - 2))
def toQ (X : Wat) (p : Nat → Int) (v : Nat) : Int := if v ≤ X.eyes.toNat then p 0 else p (2 + (v - 1 - X.eyes.toNat))
theorem toP_2 (X : Wat) (q : Nat → Int) (g : Nat) : toP X q (2 + g) = q (1 + X.eyes.toNat + g) := by
  unfold toP; rw [if_neg (by omega), show 2 + g - 2 = g from by omega]
theorem toQ_i (X : Wat) (p : Nat → Int) (g : Nat) : toQ X p (1 + X.eyes.toNat + g) = p (2 + g) := by
  unfold toQ; rw [if_neg (by omega), show 1 + X.eyes.toNat + g - 1 - X.eyes.toNat = g from by omega]
theorem alone_fwd {X : Wat} (hM : WatOk X) {S E : Nat} {q : Nat → Int} (h : Tru (noneW X) S E q) : Scr.TruthP (aloneM X) S (toP X q) := by
  have h := (noneW_tru X S E q).1 h
  refine (Scr.truth_set (alone_ok hM)).2 ⟨?_, fun i hi hb => ?_⟩
  · show (0 : Int) ≤ toP X q 1 - toP X q 0 ∧ toP X q 1 - toP X q 0 ≤ 131072
    have : toP X q 1 = toP X q 0 := rfl
    omega
  · rw [alone_len] at hi
    rw [alone_at hi]
    have hl := h.l i hi hb
    have hm := lk_eye hM hi
    have hh := h.h _ hm
    rw [habOf_no (by simp)] at hh
    have e0 : toP X q 0 = q 0 := rfl
    have e2 := toP_2 X q (lkAt X i).2.1.toNat
    refine ⟨fun hf => absurd (show false = true from hf) (by decide), fun _ => ?_⟩
    show (trv X i).1 ≤ toP X q (2 + (lkAt X i).2.1.toNat) - toP X q 0 ∧ toP X q (2 + (lkAt X i).2.1.toNat) - toP X q 0 ≤ (trv X i).2
    unfold plN eyN at hl
    simp only at hh
    omega
theorem alone_bwd {X : Wat} (hM : WatOk X) {S E : Nat} {p : Nat → Int} (h : Scr.TruthP (aloneM X) S p) : Tru (noneW X) S E (toQ X p) := by
  have h := (Scr.truth_set (alone_ok hM)).1 h
  refine (noneW_tru X S E _).2 ⟨fun m hm => ?_, fun i hi hb => ?_⟩
  · rw [habOf_no (by simp)]
    have e0 : toQ X p 0 = p 0 := by unfold toQ; rw [if_pos (Nat.zero_le _)]
    have e1 : toQ X p (1 + m) = p 0 := by unfold toQ; rw [if_pos (by omega)]
    rw [e0, e1]; simp
  · have hs := h.2 i (by rw [alone_len]; exact hi) hb
    rw [alone_at hi] at hs
    have hs : (trv X i).1 ≤ p (2 + (lkAt X i).2.1.toNat) - p 0 ∧ p (2 + (lkAt X i).2.1.toNat) - p 0 ≤ (trv X i).2 := hs.2 rfl
    have hm := lk_eye hM hi
    have e1 : toQ X p (eyN X i) = p 0 := by unfold toQ eyN; rw [if_pos (by omega)]
    have e2 : toQ X p (plN X i) = p (2 + (lkAt X i).2.1.toNat) := toQ_i X p _
    rw [e1, e2]; exact hs
theorem alone_can {X : Wat} (hM : WatOk X) (S : Nat) : Scr.canF (aloneM X) S = true ↔ canQ (noneW X) S := by
  rw [Scr.canF_iff (alone_ok hM)]
  exact ⟨fun ⟨p, h⟩ => ⟨_, alone_bwd hM h⟩, fun ⟨q, h⟩ => ⟨_, alone_fwd hM h⟩⟩
theorem alone_okF {X : Wat} (hM : WatOk X) : Scr.okF (aloneM X) ↔ okW (noneW X) := by
  rw [Scr.okF_can, alone_full, alone_can hM]; exact Iff.rfl
theorem alone_allS (X : Wat) : allS (noneW X) = allS X := rfl
theorem popF_eq : ∀ (f n : Nat), Scr.popF f n = popF f n
  | 0, _ => rfl
  | f + 1, n => by simp only [Scr.popF, popF, popF_eq f]
theorem popc_eq (n : Nat) : Scr.popc n = popc n := popF_eq 13 n
theorem alone_clash {X : Wat} (hM : WatOk X) : Scr.clashS (aloneM X) = clashN (noneW X) := by
  have f := set_facts (noneW_ok hM)
  have g := Scr.clash_facts (alone_ok hM)
  by_cases ho : okW (noneW X)
  · rw [f.c0.1 ho, g.c0.1 ((alone_okF hM).2 ho)]
  · have gle := g.cle
    rw [alone_full] at gle
    have gn : Scr.clashS (aloneM X) ≠ 0 := fun h => ho ((alone_okF hM).1 (g.c0.2 h))
    have gb : ¬ canQ (noneW X) (Scr.clashS (aloneM X)) := fun h => by
      have := (alone_can hM _).2 h
      rw [g.cbad gn] at this; cases this
    have fb : Scr.canF (aloneM X) (clashN (noneW X)) = false := Bool.eq_false_iff.2 fun h => f.cbad ho ((alone_can hM _).1 h)
    have h1 := f.cmin _ gle gb
    have h2 := (g.cbest _ (by rw [alone_full]; exact f.cle) fb).2
    rw [popc_eq, popc_eq] at h2
    omega
theorem alone_drop {X : Wat} (hM : WatOk X) : Scr.dropS (aloneM X) = dropN (noneW X) := by
  have f := set_facts (noneW_ok hM)
  have g := Scr.clash_facts (alone_ok hM)
  have gle := g.dle
  have gc := g.dcan
  rw [alone_full] at gle gc
  have h1 := f.dmin _ gle ((alone_can hM _).1 gc)
  have h2 := g.dmin (dropN (noneW X)) (by rw [alone_full]; exact f.dle) (by rw [alone_full]; exact (alone_can hM _).2 f.dcan)
  rw [popc_eq, popc_eq] at h2
  omega
theorem alone_seen {X : Wat} (hM : WatOk X) {a : Nat} : Scr.seenP (aloneM X) (a : Nat) ↔ seenI X a := by
  rw [Scr.seenP_iff]
  constructor
  · rintro ⟨x, hx, he⟩
    obtain ⟨l, hl, rfl⟩ := List.mem_map.1 hx
    obtain ⟨i, hi, rfl⟩ := mem_lkAt hl
    have he : (lkAt X i).2.1 = (a : Nat) := he
    exact ⟨i, hi, by rw [he]; rfl⟩
  · rintro ⟨i, hi, he⟩
    have h := (hM.l _ (lkAt_mem hi)).2.2
    exact ⟨aloneS (lkAt X i), List.mem_map.2 ⟨_, lkAt_mem hi, rfl⟩, by show (lkAt X i).2.1 = (a : Nat); omega⟩
theorem alone_place {X : Wat} (hM : WatOk X) {a : Nat} (ha : a < X.images.toNat) : Scr.placeE (aloneM X) (a : Nat) = placeE (noneW X) (a : Nat) := by
  have hY := noneW_ok hM
  have hA := alone_ok hM
  have hI := hM.i
  have hr : 0 ≤ ((a : Nat) : Int) ∧ ((a : Nat) : Int) ≤ (noneW X).images - 1 := by show 0 ≤ ((a : Nat) : Int) ∧ ((a : Nat) : Int) ≤ X.images - 1; omega
  have hr2 : 0 ≤ ((a : Nat) : Int) ∧ ((a : Nat) : Int) ≤ (aloneM X).images - 1 := hr
  by_cases ho : okW (noneW X)
  · have hF := (alone_okF hM).2 ho
    by_cases hs : seenI X a
    · have hseen : seenI (noneW X) a := hs
      have hc : (Scr.placeE (aloneM X) (a : Nat)).2 = 0 := by
        rw [Scr.place_end hA hF]
        show Scr.endF (aloneM X) (a : Nat) = 0
        unfold Scr.endF
        rw [if_neg (not_not_intro hr2), if_neg (not_not_intro ((alone_seen hM).2 hs))]
      have sp := (Scr.place_span hA hF ((Scr.place_code hA hF).1 hc)).1
      rw [placeE_ok hY ho hr hs]
      have e : (Scr.placeE (aloneM X) (a : Nat)).1 = plaP (noneW X) a := by
        refine SpanQ.unique (X := noneW X) (S := allS (noneW X)) (E := allE (noneW X)) (f := fun q => q (1 + X.eyes.toNat + a) - q 0) ⟨fun q hq => ?_, ?_, ?_⟩ (plaP_span hY ho hseen)
        · have := sp.all (toP X q) (by show Scr.TruthP (aloneM X) (Scr.fullS (aloneM X)) _; rw [alone_full]; exact alone_fwd hM hq)
          simp only [Int.toNat_natCast, toP_2] at this
          exact this
        · obtain ⟨p, hp, he⟩ := sp.lo
          have hp : Scr.TruthP (aloneM X) (Scr.fullS (aloneM X)) p := hp
          rw [alone_full] at hp
          refine ⟨toQ X p, alone_bwd hM hp, ?_⟩
          have e0 : toQ X p 0 = p 0 := by unfold toQ; rw [if_pos (Nat.zero_le _)]
          simp only [toQ_i, e0]
          simpa using he
        · obtain ⟨p, hp, he⟩ := sp.hi
          have hp : Scr.TruthP (aloneM X) (Scr.fullS (aloneM X)) p := hp
          rw [alone_full] at hp
          refine ⟨toQ X p, alone_bwd hM hp, ?_⟩
          have e0 : toQ X p 0 = p 0 := by unfold toQ; rw [if_pos (Nat.zero_le _)]
          simp only [toQ_i, e0]
          simpa using he
      exact Prod.ext e hc
    · rw [placeE_doubt hY ho hr hs, Scr.place_end hA hF]
      have : Scr.endF (aloneM X) (a : Nat) = 12 := by
        unfold Scr.endF
        rw [if_neg (not_not_intro hr2), if_pos fun h => hs ((alone_seen hM).1 h)]
      rw [this]; rfl
  · rw [placeE_clash hY ho hr, Scr.placeE_eq]
    unfold Scr.placeR
    rw [if_neg (not_not_intro hA), if_neg (not_not_intro hr2), if_pos fun h => ho ((alone_okF hM).1 h)]
/-- With habits they stand nowhere where they could not without, but perhaps elsewhere, too. -/
theorem none_ok {X : Wat} (hM : WatOk X) (h : okW (noneW X)) : okW X := by
  obtain ⟨q, hq⟩ := h
  exact ⟨q, ((noneW_tru X _ _ q).1 hq).all hM⟩
theorem none_pla {X : Wat} (hM : WatOk X) (h : okW (noneW X)) {a : Nat} (hs : seenI X a) : (plaP X a).1 ≤ (plaP (noneW X) a).1 ∧ (plaP (noneW X) a).2 ≤ (plaP X a).2 :=
  (plaP_span hM (none_ok hM h) hs).inside (plaP_span (noneW_ok hM) h (show seenI (noneW X) a from hs)) fun q hq => ⟨q, ((noneW_tru X _ _ q).1 hq).all hM, rfl⟩
end Go.Proofs.Ytiaaidcdoenloaa
