/-
  Plain law: days that are far enough from each other.
-/
import Derived.Test.YtdpeifbejeflhaaVe
namespace Go.Proofs.Ytdpeifbejeflhaa
open ZW

/-- A day is taken, if it can be. -/
def stepG (g : Int) (s : Int × Int) (d : Int) : Int × Int := if s.1 = 0 ∨ d - s.2 ≥ g then (s.1 + 1, d) else s
def cntG (g : Int) (l : List Int) : Int := (l.foldl (stepG g) (0, 0)).1
/-- Days behind one, each far enough from the one before it. -/
def Chn (g : Int) : Int → List Int → Prop
  | _, [] => True
  | a, c :: r => g ≤ c - a ∧ Chn g c r
def ChnL (g : Int) : List Int → Prop
  | [] => True
  | c :: r => Chn g c r
theorem Chn.gt {g : Int} (hg : 1 ≤ g) : ∀ {a : Int} {r : List Int}, Chn g a r → ∀ y ∈ r, a + g ≤ y
  | _, [], _, y, hy => by cases hy
  | a, c :: r, ⟨h1, h2⟩, y, hy => by
    rcases List.mem_cons.1 hy with rfl | hy
    · omega
    · have := Chn.gt hg h2 y hy; omega
theorem Chn.le {g a b : Int} (h : b ≤ a) : ∀ {r : List Int}, Chn g a r → Chn g b r
  | [], _ => trivial
  | _ :: _, ⟨h1, h2⟩ => ⟨by omega, h2⟩
theorem fold_mono (g : Int) : ∀ (l : List Int) (s : Int × Int), s.1 ≤ (l.foldl (stepG g) s).1
  | [], s => Int.le_refl _
  | x :: l, s => by
    refine Int.le_trans ?_ (fold_mono g l (stepG g s x))
    unfold stepG; split
    · show s.1 ≤ s.1 + 1; omega
    · exact Int.le_refl _
/-- A chain of some days is no longer than what is counted. -/
theorem fold_ge {g : Int} (hg : 1 ≤ g) : ∀ (l : List Int), l.Pairwise (· ≤ ·) → ∀ (n a : Int) (c : List Int), 1 ≤ n → Chn g a c → (∀ x ∈ c, x ∈ l) → n + c.length ≤ (l.foldl (stepG g) (n, a)).1
  | [], _, n, a, c, _, _, hc => by
    cases c with
    | nil => simp
    | cons x r => exact absurd (hc x (by simp)) (by simp)
  | x :: xs, hp, n, a, c, hn, hch, hc => by
    rw [List.pairwise_cons] at hp
    rw [List.foldl_cons, show stepG g (n, a) x = if n = 0 ∨ x - a ≥ g then (n + 1, x) else (n, a) from rfl]
    by_cases hx : n = 0 ∨ x - a ≥ g
    · rw [if_pos hx]
      cases c with
      | nil =>
        have := fold_mono g xs (n + 1, x)
        dsimp only at this
        simp; omega
      | cons c1 r =>
        obtain ⟨h1, h2⟩ := hch
        have hge : x ≤ c1 := by
          rcases List.mem_cons.1 (hc c1 (by simp)) with h | h
          · omega
          · exact hp.1 c1 h
        have hr : ∀ y ∈ r, y ∈ xs := fun y hy => by
          have := h2.gt hg y hy
          rcases List.mem_cons.1 (hc y (by simp [hy])) with h | h
          · omega
          · exact h
        have := fold_ge hg xs hp.2 (n + 1) x r (by omega) (h2.le hge) hr
        simp only [List.length_cons]
        omega
    · rw [if_neg hx]
      refine fold_ge hg xs hp.2 n a c hn hch fun y hy => ?_
      have := hch.gt hg y hy
      rcases List.mem_cons.1 (hc y hy) with h | h
      · omega
      · exact h
/-- What is counted is a chain. -/
theorem fold_chain (g : Int) : ∀ (l : List Int) (n a : Int), 1 ≤ n → ∃ c : List Int, n + c.length = (l.foldl (stepG g) (n, a)).1 ∧ Chn g a c ∧ ∀ x ∈ c, x ∈ l
  | [], n, a, _ => ⟨[], by simp, trivial, by simp⟩
  | x :: xs, n, a, hn => by
    rw [List.foldl_cons, show stepG g (n, a) x = if n = 0 ∨ x - a ≥ g then (n + 1, x) else (n, a) from rfl]
    by_cases hx : n = 0 ∨ x - a ≥ g
    · rw [if_pos hx]
      obtain ⟨c, h1, h2, h3⟩ := fold_chain g xs (n + 1) x (by omega)
      exact ⟨x :: c, by simp only [List.length_cons]; omega, ⟨by omega, h2⟩, fun y hy => by rcases List.mem_cons.1 hy with rfl | hy; (· simp); simp [h3 y hy]⟩
    · rw [if_neg hx]
      obtain ⟨c, h1, h2, h3⟩ := fold_chain g xs n a hn
      exact ⟨c, h1, h2, fun y hy => by simp [h3 y hy]⟩
theorem Chn.take {g : Int} : ∀ {a : Int} {r : List Int} (n : Nat), Chn g a r → Chn g a (r.take n)
  | _, _, 0, _ => by rw [List.take_zero]; trivial
  | _, [], _ + 1, _ => trivial
  | _, _ :: _, n + 1, ⟨h1, h2⟩ => ⟨h1, h2.take n⟩
/-- So many days can be taken. -/
def CanG (g t : Int) (D : Int → Prop) : Prop := ∃ c : List Int, (c.length : Int) = t ∧ ChnL g c ∧ ∀ x ∈ c, D x
theorem CanG.mono {g t : Int} {D D' : Int → Prop} (h : CanG g t D) (hd : ∀ x, D x → D' x) : CanG g t D' := by
  obtain ⟨c, h1, h2, h3⟩ := h
  exact ⟨c, h1, h2, fun x hx => hd x (h3 x hx)⟩
theorem cnt_can {g t : Int} (ht : 1 ≤ t) (hg : t = 1 ∨ 1 ≤ g) {l : List Int} (hp : l.Pairwise (· ≤ ·)) : t ≤ cntG g l ↔ CanG g t (· ∈ l) := by
  unfold cntG
  cases l with
  | nil =>
    constructor
    · intro h; exact absurd (Int.le_trans ht h) (by simp)
    · rintro ⟨c, h1, _, h3⟩
      cases c with
      | nil => simp at h1; omega
      | cons x r => exact absurd (h3 x (by simp)) (by simp)
  | cons x xs =>
    have hf : (x :: xs).foldl (stepG g) (0, 0) = xs.foldl (stepG g) (1, x) := by
      rw [List.foldl_cons]; unfold stepG; rw [if_pos (.inl rfl)]; rfl
    rw [hf]
    constructor
    · intro h
      obtain ⟨c, h1, h2, h3⟩ := fold_chain g xs 1 x (by omega)
      refine ⟨x :: c.take (t - 1).toNat, ?_, h2.take _, fun y hy => ?_⟩
      · simp only [List.length_cons, List.length_take]; omega
      · rcases List.mem_cons.1 hy with rfl | hy
        · simp
        · simp [h3 y (List.mem_of_mem_take hy)]
    · rintro ⟨c, h1, h2, h3⟩
      cases c with
      | nil => simp at h1; omega
      | cons c1 r =>
        simp only [List.length_cons] at h1
        rcases hg with rfl | hg
        · have := fold_mono g xs (1, x); dsimp only at this; omega
        · rw [List.pairwise_cons] at hp
          have hge : x ≤ c1 := by
            rcases List.mem_cons.1 (h3 c1 (by simp)) with h | h
            · omega
            · exact hp.1 c1 h
          have hr : ∀ y ∈ r, y ∈ xs := fun y hy => by
            have := Chn.gt hg h2 y hy
            rcases List.mem_cons.1 (h3 y (by simp [hy])) with h | h
            · omega
            · exact h
          have := fold_ge hg xs hp.2 1 x r (by omega) (Chn.le hge h2) hr
          omega
/-- Numbers in order. -/
def insI (x : Int) : List Int → List Int
  | [] => [x]
  | y :: r => if x ≤ y then x :: y :: r else y :: insI x r
def srtI (l : List Int) : List Int := l.foldr insI []
theorem insI_mem (x : Int) : ∀ (l : List Int) (d : Int), d ∈ insI x l ↔ d = x ∨ d ∈ l
  | [], d => by simp [insI]
  | y :: r, d => by
    unfold insI; split
    · simp
    · simp only [List.mem_cons, insI_mem x r d]
      constructor
      · rintro (h | h | h); (· exact .inr (.inl h)); (· exact .inl h); exact .inr (.inr h)
      · rintro (h | h | h); (· exact .inr (.inl h)); (· exact .inl h); exact .inr (.inr h)
theorem insI_srt (x : Int) : ∀ (l : List Int), l.Pairwise (· ≤ ·) → (insI x l).Pairwise (· ≤ ·)
  | [], _ => by simp [insI]
  | y :: r, h => by
    rw [List.pairwise_cons] at h
    unfold insI; split
    · rename_i hxy
      rw [List.pairwise_cons]
      refine ⟨fun z hz => ?_, List.pairwise_cons.2 h⟩
      rcases List.mem_cons.1 hz with rfl | hz
      · exact hxy
      · exact Int.le_trans hxy (h.1 z hz)
    · rename_i hxy
      rw [List.pairwise_cons]
      refine ⟨fun z hz => ?_, insI_srt x r h.2⟩
      rcases (insI_mem x r z).1 hz with rfl | hz
      · omega
      · exact h.1 z hz
theorem srtI_mem : ∀ (l : List Int) (d : Int), d ∈ srtI l ↔ d ∈ l
  | [], d => by simp [srtI]
  | x :: r, d => by
    show d ∈ insI x (srtI r) ↔ _
    rw [insI_mem, srtI_mem r d, List.mem_cons]
theorem srtI_srt : ∀ (l : List Int), (srtI l).Pairwise (· ≤ ·)
  | [] => by simp [srtI]
  | x :: r => insI_srt x _ (srtI_srt r)
theorem srtTo_pw {l : List Int} (h : SrtTo l l.length) : l.Pairwise (· ≤ ·) := by
  rw [List.pairwise_iff_getElem]
  intro i j hi hj hij
  have := h i j hij hj
  rw [← List.getElem_eq_getD (h := hi), ← List.getElem_eq_getD (h := hj)] at this
  exact this
theorem cnt_eq {g t : Int} (ht : 1 ≤ t) (hg : t = 1 ∨ 1 ≤ g) {l l' : List Int} (hs : SrtTo l' l'.length) (hm : ∀ d, d ∈ l' ↔ d ∈ l) : (t ≤ cntG g l') ↔ (t ≤ cntG g (srtI l)) := by
  rw [cnt_can ht hg (srtTo_pw hs), cnt_can ht hg (srtI_srt l)]
  exact ⟨fun h => h.mono fun x hx => (srtI_mem l x).2 ((hm x).1 hx), fun h => h.mono fun x hx => (hm x).2 ((srtI_mem l x).1 hx)⟩
end Go.Proofs.Ytdpeifbejeflhaa
