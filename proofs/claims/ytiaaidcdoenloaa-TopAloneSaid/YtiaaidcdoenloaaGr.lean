/-
  Plain law of links: by how much numbers can be greater than one, found by going over all links again and again.
-/
namespace ZW

abbrev Lnk := Nat × Nat × Int
abbrev DMap := Nat → Option Int
/-- Numbers that keep all links. -/
def Pot (l : List Lnk) (q : Nat → Int) : Prop := ∀ x ∈ l, q x.2.1 - q x.1 ≤ x.2.2
def setD (m : DMap) (v : Nat) (d : Int) : DMap := fun u => if u = v then some d else m u
/-- One link: what is known then, and whether that is closer. -/
def relaxP (m : DMap) (x : Lnk) : DMap × Bool :=
  match m x.1 with
  | none => (m, false)
  | some a => match m x.2.1 with
    | none => (setD m x.2.1 (a + x.2.2), true)
    | some b => if a + x.2.2 < b then (setD m x.2.1 (a + x.2.2), true) else (m, false)
def stepN (s : DMap × Bool) (x : Lnk) : DMap × Bool := ((relaxP s.1 x).1, s.2 || (relaxP s.1 x).2)
def narrowP (l : List Lnk) (m : DMap) : DMap × Bool := l.foldl stepN (m, false)
def roundsP (l : List Lnk) : Nat → DMap → Option DMap
  | 0, _ => none
  | k + 1, m => if (narrowP l m).2 = true then roundsP l k (narrowP l m).1 else some (narrowP l m).1
def startD (s : Nat) : DMap := fun v => if v = s then some 0 else none
def farP (s : Nat) (l : List Lnk) : Option DMap := roundsP l (l.length + 2) (startD s)

/-! ### Ways -/
def Ch (l : List Lnk) : Nat → List Lnk → Nat → Prop
  | u, [], v => u = v
  | u, x :: r, v => x ∈ l ∧ x.1 = u ∧ Ch l x.2.1 r v
def way (r : List Lnk) : Int := (r.map fun x => x.2.2).foldr (· + ·) 0
theorem way_cons (x : Lnk) (r : List Lnk) : way (x :: r) = x.2.2 + way r := rfl
theorem way_app : ∀ (r s : List Lnk), way (r ++ s) = way r + way s
  | [], s => by simp [way]
  | x :: r, s => by rw [List.cons_append, way_cons, way_cons, way_app r s]; omega
theorem Ch.app {l : List Lnk} : ∀ {u v : Nat} {r s : List Lnk}, Ch l u (r ++ s) v ↔ ∃ t, Ch l u r t ∧ Ch l t s v
  | u, v, [], s => ⟨fun h => ⟨u, rfl, h⟩, fun ⟨t, h, k⟩ => by cases h; exact k⟩
  | u, v, x :: r, s => by
    rw [List.cons_append]
    constructor
    · rintro ⟨h1, h2, h3⟩
      obtain ⟨t, h4, h5⟩ := Ch.app.1 h3
      exact ⟨t, ⟨h1, h2, h4⟩, h5⟩
    · rintro ⟨t, ⟨h1, h2, h4⟩, h5⟩
      exact ⟨h1, h2, Ch.app.2 ⟨t, h4, h5⟩⟩
theorem Ch.pot {l : List Lnk} {q : Nat → Int} (hq : Pot l q) : ∀ {u v : Nat} {r : List Lnk}, Ch l u r v → q v - q u ≤ way r
  | u, v, [], h => by cases h; simp [way]
  | u, v, x :: r, ⟨h1, h2, h3⟩ => by
    have := Ch.pot hq h3
    have := hq x h1
    rw [way_cons]; rw [h2] at this; omega
abbrev tgt (r : List Lnk) : List Nat := r.map fun x => x.2.1
/-- A way that meets a number is cut there. -/
theorem Ch.cut {l : List Lnk} : ∀ {s v u : Nat} {r : List Lnk}, Ch l s r v → u ∈ s :: tgt r → ∃ r1 r2, r = r1 ++ r2 ∧ Ch l s r1 u ∧ Ch l u r2 v
  | s, v, u, [], h, hu => by
    simp at hu
    subst hu
    exact ⟨[], [], rfl, rfl, h⟩
  | s, v, u, x :: r, ⟨h1, h2, h3⟩, hu => by
    by_cases hs : u = s
    · subst hs; exact ⟨[], x :: r, rfl, rfl, ⟨h1, h2, h3⟩⟩
    · have hu' : u ∈ x.2.1 :: tgt r := by
        rcases List.mem_cons.1 hu with h | h
        · exact absurd h hs
        · simpa using h
      obtain ⟨r1, r2, he, k1, k2⟩ := Ch.cut h3 hu'
      exact ⟨x :: r1, r2, by rw [he]; rfl, ⟨h1, h2, k1⟩, k2⟩
theorem Ch.last {l : List Lnk} : ∀ {s v : Nat} {r : List Lnk}, Ch l s r v → v ∈ s :: tgt r
  | s, v, [], h => by cases h; simp
  | s, v, x :: r, ⟨_, _, h3⟩ => by
    have := Ch.last h3
    exact List.mem_cons_of_mem _ (by simpa using this)
theorem Ch.sub {l : List Lnk} : ∀ {s v : Nat} {r : List Lnk}, Ch l s r v → ∀ u ∈ tgt r, u ∈ tgt l
  | s, v, [], _, u, hu => by simp at hu
  | s, v, x :: r, ⟨h1, _, h3⟩, u, hu => by
    simp only [List.map_cons, List.mem_cons] at hu
    rcases hu with rfl | hu
    · exact List.mem_map.2 ⟨x, h1, rfl⟩
    · exact Ch.sub h3 u hu
/-- Where there are such numbers, no way is shorter for meeting a number twice. -/
theorem Ch.short {l : List Lnk} {q : Nat → Int} (hq : Pot l q) : ∀ {u v : Nat} {r : List Lnk}, Ch l u r v → ∃ r', Ch l u r' v ∧ way r' ≤ way r ∧ (u :: tgt r').Nodup
  | u, v, [], h => ⟨[], h, Int.le_refl _, by simp⟩
  | u, v, x :: r, ⟨h1, h2, h3⟩ => by
    obtain ⟨r', k1, k2, k3⟩ := Ch.short hq h3
    by_cases hu : u ∈ x.2.1 :: tgt r'
    · obtain ⟨r1, r2, he, c1, c2⟩ := Ch.cut k1 hu
      have hc : Ch l u (x :: r1) u := ⟨h1, h2, c1⟩
      have := Ch.pot hq hc
      refine ⟨r2, c2, ?_, ?_⟩
      · rw [he, way_app] at k2
        rw [way_cons] at this ⊢
        omega
      · rw [he] at k3
        have e : x.2.1 :: tgt (r1 ++ r2) = (x.2.1 :: tgt r1) ++ tgt r2 := by simp [tgt]
        rw [e, List.nodup_append] at k3
        refine List.nodup_cons.2 ⟨fun hm => ?_, k3.2.1⟩
        exact k3.2.2 u (Ch.last c1) u hm rfl
    · exact ⟨x :: r', ⟨h1, h2, k1⟩, by rw [way_cons, way_cons]; omega, List.nodup_cons.2 ⟨hu, k3⟩⟩
theorem nodup_len : ∀ {a b : List Nat}, a.Nodup → (∀ u ∈ a, u ∈ b) → a.length ≤ b.length
  | [], _, _, _ => Nat.zero_le _
  | x :: a, b, hd, hs => by
    obtain ⟨h1, h2⟩ := List.nodup_cons.1 hd
    have hx := hs x (List.mem_cons_self ..)
    have ih := nodup_len (b := b.erase x) h2 fun u hu => (List.mem_erase_of_ne fun e => h1 (by rw [← e]; exact hu)).2 (hs u (List.mem_cons_of_mem _ hu))
    rw [List.length_erase_of_mem hx] at ih
    have := List.length_pos_of_mem hx
    rw [List.length_cons]; omega
theorem Ch.few {l : List Lnk} {q : Nat → Int} (hq : Pot l q) {u v : Nat} {r : List Lnk} (h : Ch l u r v) : ∃ r', Ch l u r' v ∧ way r' ≤ way r ∧ r'.length ≤ l.length := by
  obtain ⟨r', k1, k2, k3⟩ := Ch.short hq h
  refine ⟨r', k1, k2, ?_⟩
  have := nodup_len (b := u :: tgt l) k3 fun w hw => by
    rcases List.mem_cons.1 hw with rfl | hw
    · exact List.mem_cons_self ..
    · exact List.mem_cons_of_mem _ (Ch.sub k1 w hw)
  simp at this
  omega

/-! ### What is known -/
/-- Everything known is a way's length. -/
def Real (s : Nat) (l : List Lnk) (m : DMap) : Prop := ∀ v d, m v = some d → ∃ r, Ch l s r v ∧ way r = d
/-- The first is at least as close as the second one. -/
def Below (m n : DMap) : Prop := ∀ v d, n v = some d → ∃ e, m v = some e ∧ e ≤ d
theorem Below.refl (m : DMap) : Below m m := fun _ d h => ⟨d, h, Int.le_refl _⟩
theorem Below.trans {a b c : DMap} (h : Below a b) (k : Below b c) : Below a c := fun v d hd => by
  obtain ⟨e, he, h1⟩ := k v d hd
  obtain ⟨f, hf, h2⟩ := h v e he
  exact ⟨f, hf, by omega⟩
theorem relax_below (m : DMap) (x : Lnk) : Below (relaxP m x).1 m := fun v d hd => by
  unfold relaxP
  split
  · exact ⟨d, hd, Int.le_refl _⟩
  · rename_i a ha
    split
    · rename_i hb
      by_cases hv : v = x.2.1
      · subst hv; rw [hb] at hd; cases hd
      · exact ⟨d, by simp only [setD, if_neg hv]; exact hd, Int.le_refl _⟩
    · rename_i b hb
      split
      · by_cases hv : v = x.2.1
        · subst hv
          rw [hb] at hd; cases hd
          exact ⟨a + x.2.2, by simp [setD], by omega⟩
        · exact ⟨d, by simp only [setD, if_neg hv]; exact hd, Int.le_refl _⟩
      · exact ⟨d, hd, Int.le_refl _⟩
theorem relax_does (m : DMap) (x : Lnk) {a : Int} (h : m x.1 = some a) : ∃ b, (relaxP m x).1 x.2.1 = some b ∧ b ≤ a + x.2.2 := by
  unfold relaxP
  rw [h]
  simp only
  split
  · exact ⟨_, by simp only [setD, if_pos], Int.le_refl _⟩
  · rename_i b hb
    split
    · exact ⟨_, by simp only [setD, if_pos], Int.le_refl _⟩
    · exact ⟨b, hb, by omega⟩
theorem relax_real {s : Nat} {l : List Lnk} {m : DMap} (h : Real s l m) {x : Lnk} (hx : x ∈ l) : Real s l (relaxP m x).1 := by
  have hset : ∀ a, m x.1 = some a → Real s l (setD m x.2.1 (a + x.2.2)) := fun a ha v d hd => by
    by_cases hv : v = x.2.1
    · subst hv
      simp only [setD, if_pos, Option.some.injEq] at hd
      obtain ⟨r, h1, h2⟩ := h _ _ ha
      exact ⟨r ++ [x], Ch.app.2 ⟨x.1, h1, hx, rfl, rfl⟩, by rw [way_app, h2, ← hd]; simp [way]⟩
    · simp only [setD, if_neg hv] at hd
      exact h v d hd
  unfold relaxP
  split
  · exact h
  · rename_i a ha
    split
    · exact hset a ha
    · split
      · exact hset a ha
      · exact h
theorem fold_below : ∀ (l : List Lnk) (s : DMap × Bool), Below (l.foldl stepN s).1 s.1
  | [], s => Below.refl _
  | x :: l, s => by
    have := fold_below l (stepN s x)
    exact this.trans (relax_below s.1 x)
theorem fold_real {s : Nat} {L : List Lnk} : ∀ (l : List Lnk) (m : DMap × Bool), (∀ x ∈ l, x ∈ L) → Real s L m.1 → Real s L (l.foldl stepN m).1
  | [], _, _, h => h
  | x :: l, m, hs, h => fold_real l (stepN m x) (fun y hy => hs y (List.mem_cons_of_mem _ hy)) (relax_real h (hs x (List.mem_cons_self ..)))
/-- Going over all links, each is kept with what was known ahead. -/
theorem fold_does : ∀ (l : List Lnk) (m : DMap × Bool) (x : Lnk), x ∈ l → ∀ a, m.1 x.1 = some a → ∃ b, (l.foldl stepN m).1 x.2.1 = some b ∧ b ≤ a + x.2.2
  | [], _, x, hx, _, _ => by simp at hx
  | y :: l, m, x, hx, a, ha => by
    rcases List.mem_cons.1 hx with rfl | hx
    · obtain ⟨b, hb, h1⟩ := relax_does m.1 x ha
      obtain ⟨c, hc, h2⟩ := fold_below l (stepN m x) _ b hb
      exact ⟨c, hc, by omega⟩
    · obtain ⟨e, he, h1⟩ := relax_below m.1 y _ a ha
      obtain ⟨b, hb, h2⟩ := fold_does l (stepN m y) x hx e he
      exact ⟨b, hb, by omega⟩
theorem fold_flag : ∀ (l : List Lnk) (m : DMap × Bool), m.2 = true → (l.foldl stepN m).2 = true
  | [], _, h => h
  | x :: l, m, h => fold_flag l (stepN m x) (by simp [stepN, h])
theorem relax_still {m : DMap} {x : Lnk} (h : (relaxP m x).2 = false) : (relaxP m x).1 = m ∧ ∀ a, m x.1 = some a → ∃ b, m x.2.1 = some b ∧ b ≤ a + x.2.2 := by
  have key : (relaxP m x).1 = m := by
    unfold relaxP at h ⊢
    split
    · rfl
    · rename_i a ha
      rw [ha] at h
      simp only at h
      split
      · rename_i hb; rw [hb] at h; cases h
      · rename_i b hb
        rw [hb] at h
        simp only at h
        split
        · rename_i hc; rw [if_pos hc] at h; cases h
        · rfl
  refine ⟨key, fun a ha => ?_⟩
  have := relax_does m x ha
  rwa [key] at this
theorem fold_still : ∀ (l : List Lnk) (m : DMap), (l.foldl stepN (m, false)).2 = false → (l.foldl stepN (m, false)).1 = m ∧ ∀ x ∈ l, ∀ a, m x.1 = some a → ∃ b, m x.2.1 = some b ∧ b ≤ a + x.2.2
  | [], _, _ => ⟨rfl, fun x hx => by simp at hx⟩
  | x :: l, m, h => by
    rw [List.foldl_cons] at h ⊢
    have hf : (relaxP m x).2 = false := by
      cases hc : (relaxP m x).2 with
      | false => rfl
      | true => rw [fold_flag l (stepN (m, false) x) (by simp [stepN, hc])] at h; cases h
    obtain ⟨e, k⟩ := relax_still hf
    have es : stepN (m, false) x = (m, false) := by unfold stepN; rw [e, hf]; rfl
    rw [es] at h ⊢
    obtain ⟨h1, h2⟩ := fold_still l m h
    refine ⟨h1, fun y hy => ?_⟩
    rcases List.mem_cons.1 hy with rfl | hy
    · exact k
    · exact h2 y hy
theorem relax_no {m : DMap} {x : Lnk} (h : ∀ a, m x.1 = some a → ∃ b, m x.2.1 = some b ∧ b ≤ a + x.2.2) : relaxP m x = (m, false) := by
  unfold relaxP
  cases ha : m x.1 with
  | none => rfl
  | some a =>
    obtain ⟨b, hb, hle⟩ := h a ha
    simp only [hb]
    rw [if_neg (by omega)]
theorem still_flag : ∀ (l : List Lnk) (m : DMap), (∀ x ∈ l, ∀ a, m x.1 = some a → ∃ b, m x.2.1 = some b ∧ b ≤ a + x.2.2) → (l.foldl stepN (m, false)).2 = false
  | [], _, _ => rfl
  | x :: l, m, h => by
    have hr := relax_no (m := m) (x := x) (h x (List.mem_cons_self ..))
    have e : stepN (m, false) x = (m, false) := by
      show ((relaxP m x).1, false || (relaxP m x).2) = _
      rw [hr]; rfl
    rw [List.foldl_cons, e]
    exact still_flag l m fun y hy => h y (List.mem_cons_of_mem _ hy)
/-- What is known at last: links are kept, and everything is a way's length. -/
structure Best (s : Nat) (l : List Lnk) (m : DMap) : Prop where
  still : ∀ x ∈ l, ∀ a, m x.1 = some a → ∃ b, m x.2.1 = some b ∧ b ≤ a + x.2.2
  real : Real s l m
  own : ∃ d, m s = some d ∧ d ≤ 0
theorem start_real (s : Nat) (l : List Lnk) : Real s l (startD s) := fun v d h => by
  unfold startD at h
  split at h
  · rename_i hv; cases h; exact ⟨[], hv.symm, rfl⟩
  · cases h
theorem rounds_known {s : Nat} {l : List Lnk} : ∀ (k : Nat) (m r : DMap), Real s l m → (∃ d, m s = some d ∧ d ≤ 0) → roundsP l k m = some r → Best s l r
  | 0, _, _, _, _, h => by simp [roundsP] at h
  | k + 1, m, r, h1, h2, h => by
    unfold roundsP at h
    have hr := fold_real (s := s) (L := l) l (m, false) (fun _ hx => hx) h1
    have ho : ∃ d, (narrowP l m).1 s = some d ∧ d ≤ 0 := by
      obtain ⟨d, hd, h3⟩ := h2
      obtain ⟨e, he, h4⟩ := fold_below l (m, false) s d hd
      exact ⟨e, he, by omega⟩
    split at h
    · exact rounds_known k _ r hr ho h
    · rename_i hc
      cases h
      have hf : (narrowP l m).2 = false := by simpa using hc
      obtain ⟨e, k2⟩ := fold_still l m hf
      have e : (narrowP l m).1 = m := e
      rw [e]
      exact ⟨k2, h1, h2⟩
theorem far_known {s : Nat} {l : List Lnk} {m : DMap} (h : farP s l = some m) : Best s l m :=
  rounds_known _ _ _ (start_real s l) ⟨0, by simp [startD], Int.le_refl _⟩ h
/-- After k rounds the ways of at most k links are known. -/
def Reach (s : Nat) (l : List Lnk) (k : Nat) (m : DMap) : Prop := ∀ r v, Ch l s r v → r.length ≤ k → ∃ d, m v = some d ∧ d ≤ way r
theorem reach_step {s : Nat} {l : List Lnk} {k : Nat} {m : DMap} (h : Reach s l k m) : Reach s l (k + 1) (narrowP l m).1 := fun r v hc hl => by
  rcases List.eq_nil_or_concat r with rfl | ⟨r', x, rfl⟩
  · obtain ⟨d, hd, h1⟩ := h [] v hc (Nat.zero_le _)
    obtain ⟨e, he, h2⟩ := fold_below l (m, false) v d hd
    exact ⟨e, he, by omega⟩
  · rw [List.concat_eq_append] at hc hl ⊢
    obtain ⟨t, h1, hx, h2, h3⟩ := Ch.app.1 hc
    have h3 : x.2.1 = v := h3
    rw [List.length_append] at hl
    simp at hl
    obtain ⟨d, hd, h4⟩ := h r' t h1 (by omega)
    obtain ⟨b, hb, h5⟩ := fold_does l (m, false) x hx d (by rw [h2]; exact hd)
    rw [h3] at hb
    exact ⟨b, hb, by rw [way_app]; simp [way] at h4 h5 ⊢; omega⟩
theorem reach_0 (s : Nat) (l : List Lnk) : Reach s l 0 (startD s) := fun r v hc hl => by
  have : r = [] := by simpa using hl
  subst this
  have hc : s = v := hc
  exact ⟨0, by simp [startD, hc], Int.le_refl _⟩
/-- Where there are such numbers, it stops. -/
theorem rounds_still {s : Nat} {l : List Lnk} {q : Nat → Int} (hq : Pot l q) {k : Nat} {m : DMap} (h1 : Real s l m) (h2 : Reach s l k m) (hk : l.length ≤ k) : (narrowP l m).2 = false := by
  refine still_flag l m fun x hx a ha => ?_
  obtain ⟨r, hr, hw⟩ := h1 _ _ ha
  obtain ⟨r', k1, k2, k3⟩ := Ch.few hq (Ch.app.2 ⟨x.1, hr, hx, rfl, rfl⟩ : Ch l s (r ++ [x]) x.2.1)
  obtain ⟨d, hd, h3⟩ := h2 r' _ k1 (by omega)
  rw [way_app] at k2
  simp [way] at k2 hw h3
  exact ⟨d, hd, by omega⟩
theorem rounds_some {s : Nat} {l : List Lnk} {q : Nat → Int} (hq : Pot l q) : ∀ (n k : Nat) (m : DMap), Real s l m → Reach s l k m → k ≤ l.length → l.length < k + n → ∃ r, roundsP l n m = some r
  | 0, k, m, h1, h2, hk0, hn => by
    exfalso
    omega
  | n + 1, k, m, h1, h2, hk0, hn => by
    unfold roundsP
    by_cases hc : (narrowP l m).2 = true
    · rw [if_pos hc]
      by_cases hk : l.length ≤ k
      · rw [rounds_still hq h1 h2 hk] at hc; cases hc
      · exact rounds_some hq n (k + 1) _ (fold_real l (m, false) (fun _ hx => hx) h1) (reach_step h2) (by omega) (by omega)
    · rw [if_neg hc]; exact ⟨_, rfl⟩
theorem far_some {s : Nat} {l : List Lnk} {q : Nat → Int} (hq : Pot l q) : ∃ m, farP s l = some m := rounds_some hq _ 0 _ (start_real s l) (reach_0 s l) (Nat.zero_le _) (by omega)
/-- What is known is exact: no such numbers are farther apart. -/
theorem Best.le {s : Nat} {l : List Lnk} {m : DMap} (h : Best s l m) {q : Nat → Int} (hq : Pot l q) {v : Nat} {d : Int} (hv : m v = some d) : q v - q s ≤ d := by
  obtain ⟨r, hr, hw⟩ := h.real v d hv
  have := Ch.pot hq hr
  omega
/-- And where all links begin at something known, what is known keeps all links. -/
theorem Best.pot {s : Nat} {l : List Lnk} {m : DMap} (h : Best s l m) (hk : ∀ x ∈ l, ∃ a, m x.1 = some a) : Pot l fun v => (m v).getD 0 := fun x hx => by
  obtain ⟨a, ha⟩ := hk x hx
  obtain ⟨b, hb, hle⟩ := h.still x hx a ha
  simp only [ha, hb, Option.getD_some]
  omega
theorem Best.zero {s : Nat} {l : List Lnk} {m : DMap} (h : Best s l m) {q : Nat → Int} (hq : Pot l q) : m s = some 0 := by
  obtain ⟨d, hd, h1⟩ := h.own
  have := h.le hq hd
  rw [hd, show d = 0 from by omega]
end ZW
