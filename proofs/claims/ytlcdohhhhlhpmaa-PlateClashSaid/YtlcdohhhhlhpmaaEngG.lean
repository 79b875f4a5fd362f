/-
  The engine, seventh part: slices: those that were there, and those that the call owns; appends.
-/
import Derived.Test.YtlcdohhhhlhpmaaEngF
import Derived.ArgAppend
import Derived.Maps.AppendAt
namespace ZW
open Go

/-- Where a slice's cells begin. -/
def sblk (a : Option Addr) : Nat := (a.getD ⟨0, 0, none⟩).block
def soff (a : Option Addr) : Nat := (a.getD ⟨0, 0, none⟩).off

/-- In this world a slice holds these elements, each of sz cells. -/
structure SlE (w : World) (a : Option Addr) (n sz : Nat) (f : Nat → List Value) : Prop where
  len : ∀ i, i < n → (f i).length = sz
  at_ : 0 < n → a = some ⟨sblk a, soff a, none⟩
  cell : ∀ i j, i < n → j < sz → w.cell? ⟨sblk a, soff a + i * sz + j, none⟩ = (f i)[j]?

/-- In each world of the class it does. -/
def SlR (C : World → Prop) (a : Option Addr) (n sz : Nat) (f : Nat → List Value) : Prop := ∀ w, C w → SlE w a n sz f

theorem SlE.eff {W w : World} {M L : Heap} {a : Option Addr} {n sz : Nat} {f : Nat → List Value} (h : SlE W a n sz f) (hw : Eff W M L w) (hM : ∀ p ∈ M, p.1 ≠ sblk a) : SlE w a n sz f :=
  ⟨h.len, h.at_, fun i j hi hj => by
    have h1 := h.cell i j hi hj
    have hl := h.len i hi
    have hb : sblk a < W.heap.size := by
      rw [List.getElem?_eq_getElem (by omega)] at h1
      exact World.block_lt_of_cell? W ⟨sblk a, _, none⟩ h1
    rw [World.cell?_of_block (w := W) (a := ⟨sblk a, _, none⟩) (hw.frame _ hb hM)]
    exact h1⟩
theorem SlE.eff0 {W w : World} {L : Heap} {a : Option Addr} {n sz : Nat} {f : Nat → List Value} (h : SlE W a n sz f) (hw : Eff W [] L w) : SlE w a n sz f := h.eff hw (by simp)
theorem SlE.r {W : World} {M L : Heap} {a : Option Addr} {n sz : Nat} {f : Nat → List Value} (h : SlE W a n sz f) (hM : ∀ p ∈ M, p.1 ≠ sblk a := by simp) : SlR (Eff W M L) a n sz f := fun _ hw => h.eff hw hM
theorem SlE.nil {w : World} {a : Option Addr} {sz : Nat} {f : Nat → List Value} : SlE w a 0 sz f := ⟨fun _ h => by omega, fun h => by omega, fun _ _ h => by omega⟩

section
variable {P : Program} {ro : Option Nat} {Q : Exit → Act → World → Prop} {next : Act → World → Prop} {N : Nat} {S : Slots} {D : List Deferred} {W : World} {M L : Heap}
variable {C : World → Prop} {dst : Option Tmp} {d : Nat} {ty : TypeId} {pos : String} {af : Array Edge} {g : Option (Nat × Bool)}

/-- The address of an element. -/
theorem yIndexS {T e : TypeId} {x i : Operand} {a : Option Addr} {n c sz k : Nat} {kd : IntKind} {f : Nat → List Value} (hx : opd S x = some (.slice a n c)) (hi : opd S i = some (.int kd (k : Nat))) (h : slEl P T = some (e, sz))
    (hs : SlR C a n sz f) (hk : k < n) : YV P S C ⟨dst, .indexAddr T x i, ty, pos, af, g⟩ (.pointer (some ⟨sblk a, soff a + k * sz, none⟩)) :=
  .pureC fun ρ hkn w hC => by
    have ha := (hs w hC).at_ (by omega)
    have hx' := hkn x _ hx
    rw [ha] at hx'
    unfold slEl at h
    split at h
    · rename_i e' hu
      split at h
      · rename_i inf hi'
        cases h
        have h0 : (0 : Int) ≤ (k : Int) := by omega
        have h1 : ((k : Nat) : Int) < (n : Nat) := by omega
        simp only [execOp, hx', hkn i _ hi, Instr.indexAt, asIntOf, Sem.run_bind, run_underlying_of hu, Result.andThen_ok, Sem.run_pure, h0, h1, and_self, if_true, run_sizeOf_of hi', addr_add, Int.toNat_natCast]
      · cases h
    · cases h
/-- Some cells of an element. -/
theorem cSl {a : Option Addr} {n sz i k : Nat} {f : Nat → List Value} {vs : List Value} (h : SlR C a n sz f) (hi : i < n) (hs : sub (f i) k vs.length = some vs) : Cells C (sblk a) (soff a + i * sz + k) vs := by
  intro w hw j hj
  obtain ⟨_, h2⟩ := sub_spec _ _ _ _ hs
  have h3 := h2 j hj
  have hE := h w hw
  have hkj : k + j < sz := by
    have hl := hE.len i hi
    rw [List.getElem?_eq_getElem hj] at h3
    have := (List.getElem?_eq_some_iff.1 h3).1
    omega
  rw [show soff a + i * sz + k + j = soff a + i * sz + (k + j) from by omega, hE.cell i (k + j) hi hkj]
  exact h3
theorem cSl0 {a : Option Addr} {n sz i : Nat} {f : Nat → List Value} {vs : List Value} (h : SlR C a n sz f) (hi : i < n) (hs : sub (f i) 0 vs.length = some vs) : Cells C (sblk a) (soff a + i * sz) vs := cSl (k := 0) h hi hs

/-! ### Slices that the call owns -/
inductive Own
  | e (a : Option Addr)
  | b (n cap : Nat) (l : List Value)
def osA : Own → Option Addr
  | .e a => a
  | .b n _ _ => some ⟨n, 0, none⟩
def osC : Own → Nat
  | .e _ => 0
  | .b _ c _ => c
abbrev osV (g : Own) (len : Nat) : Value := .slice (osA g) len (osC g)
def osL (e : TypeId) : Own → Heap
  | .e _ => []
  | .b n _ l => [(n, blk l e)]
/-- An own slice holds these elements. -/
structure OS (sz : Nat) (g : Own) (es : List (List Value)) : Prop where
  len : ∀ x ∈ es, x.length = sz
  at_ : match g with
    | .e _ => es = []
    | .b _ c l => es.length ≤ c ∧ c ≤ maxLen ∧ l.length = c * sz ∧ l.take (es.length * sz) = es.flatten

theorem OS.empty {sz : Nat} {a : Option Addr} : OS sz (.e a) [] := ⟨by simp, rfl⟩
/-- A literal. -/
theorem OS.lit {sz n : Nat} {l : List Value} {es : List (List Value)} (h : ∀ x ∈ es, x.length = sz) (hl : l = es.flatten) (hm : es.length ≤ 9223372036854775807) : OS sz (.b n es.length l) es := by
  subst hl
  have : es.flatten.length = es.length * sz := by
    clear hm
    induction es with
    | nil => simp
    | cons x r ih => simp only [List.flatten_cons, List.length_append, h x (by simp), ih (fun y hy => h y (by simp [hy])), List.length_cons, Nat.add_mul]; omega
  refine ⟨h, Nat.le_refl _, by simpa [maxLen] using hm, this, ?_⟩
  rw [← this]; exact List.take_length
theorem flatten_length {sz : Nat} {es : List (List Value)} (h : ∀ x ∈ es, x.length = sz) : es.flatten.length = es.length * sz := by
  induction es with
  | nil => simp
  | cons x r ih => simp only [List.flatten_cons, List.length_append, h x (by simp), ih (fun y hy => h y (by simp [hy])), List.length_cons, Nat.add_mul]; omega
theorem flatten_at {sz : Nat} : ∀ (es : List (List Value)) (_ : ∀ x ∈ es, x.length = sz) (i j : Nat), i < es.length → j < sz → es.flatten[i * sz + j]? = (es.getD i [])[j]?
  | [], _, i, j, hi, _ => by simp at hi
  | x :: r, h, 0, j, _, hj => by
    have := h x (by simp)
    simp only [List.flatten_cons, Nat.zero_mul, Nat.zero_add, List.getD_cons_zero]
    rw [List.getElem?_append_left (by omega)]
  | x :: r, h, i + 1, j, hi, hj => by
    have hx := h x (by simp)
    have ih := flatten_at r (fun y hy => h y (by simp [hy])) i j (by simpa using hi) hj
    simp only [List.flatten_cons, List.getD_cons_succ]
    rw [List.getElem?_append_right (by rw [hx, Nat.add_mul]; omega), ← ih]
    congr 1
    rw [hx, Nat.add_mul]; omega

theorem OS.sle {sz : Nat} {g : Own} {es : List (List Value)} {e : TypeId} {w : World} (h : OS sz g es) (hw : ∀ p ∈ osL e g, w.heap[p.1]? = some p.2) : SlE w (osA g) es.length sz (fun i => es.getD i []) := by
  refine ⟨fun i hi => h.len _ ?_, fun hn => ?_, fun i j hi hj => ?_⟩
  · rw [← List.getElem_eq_getD (h := hi)]; exact List.getElem_mem hi
  · cases g with
    | e a => have := h.at_; simp only at this; subst this; simp at hn
    | b n c l => rfl
  · cases g with
    | e a => have := h.at_; simp only at this; subst this; simp at hi
    | b n c l =>
      obtain ⟨h1, h2, h3, h4⟩ := h.at_
      have hb := hw (n, blk l e) (by simp [osL])
      simp only [sblk, soff, osA, Option.getD_some, Nat.zero_add]
      rw [cell_blk hb]
      have hlt : i * sz + j < es.length * sz := by
        have : (i + 1) * sz ≤ es.length * sz := Nat.mul_le_mul_right _ hi
        rw [Nat.add_mul] at this; omega
      have := flatten_at es h.len i j hi hj
      rw [← h4, List.getElem?_take, if_pos hlt] at this
      exact this
theorem OS.r {sz : Nat} {g : Own} {es : List (List Value)} {e : TypeId} (h : OS sz g es) (hs : SubP (osL e g) L) : SlR (Eff W M L) (osA g) es.length sz (fun i => es.getD i []) := fun _ hw =>
  h.sle fun p hp => hw.own p (List.mem_append.2 (.inr (hs.mem p hp)))

/-- The cells of the elements that a slice value shows. -/
def SlN (C : World → Prop) (ao : Option Addr) (l : List Value) : Prop := ∀ w, C w → ∀ j u, l[j]? = some u → ∃ a, ao = some a ∧ w.cell? (a.add j) = some u
theorem SlN.nil {ao : Option Addr} : SlN C ao [] := fun _ _ j u h => by simp at h
/-- Of an own slice, whole, or a literal. -/
theorem SlN.own {n : Nat} {l vs : List Value} {e : TypeId} (i : Nat) (hi : (M ++ L)[i]? = some (n, blk l e)) (hl : l.take vs.length = vs) : SlN (Eff W M L) (some ⟨n, 0, none⟩) vs := fun w hw j u hj => by
  refine ⟨_, rfl, ?_⟩
  have h := hw.own _ (List.mem_of_getElem? hi)
  rw [addr_add, Nat.zero_add, cell_blk h]
  have hlt := (List.getElem?_eq_some_iff.1 hj).1
  rw [← hl, List.getElem?_take, if_pos hlt] at hj
  exact hj
theorem SlN.sl {a : Option Addr} {n sz : Nat} {f : Nat → List Value} (h : SlR C a n sz f) : SlN C a ((List.range n).map f).flatten := fun w hw j u hj => by
  have hE := h w hw
  have hlen : ∀ x ∈ (List.range n).map f, x.length = sz := by
    intro x hx
    obtain ⟨i, hi, rfl⟩ := List.mem_map.1 hx
    exact hE.len i (List.mem_range.1 hi)
  have hjl := (List.getElem?_eq_some_iff.1 hj).1
  rw [flatten_length hlen] at hjl
  simp only [List.length_map, List.length_range] at hjl
  have hsz : 0 < sz := by rcases Nat.eq_zero_or_pos sz with h | h; (· subst h; simp at hjl); exact h
  have hi : j / sz < n := by rw [Nat.div_lt_iff_lt_mul hsz]; exact hjl
  have hm : j % sz < sz := Nat.mod_lt _ hsz
  have hn : 0 < n := Nat.lt_of_le_of_lt (Nat.zero_le _) hi
  have hfl := flatten_at _ hlen (j / sz) (j % sz) (by simpa using hi) hm
  have hdm : j / sz * sz + j % sz = j := by rw [Nat.mul_comm]; exact Nat.div_add_mod j sz
  rw [hdm, hj] at hfl
  have hg : ((List.range n).map f).getD (j / sz) [] = f (j / sz) := by
    rw [← List.getElem_eq_getD (h := by simpa using hi)]; simp
  rw [hg] at hfl
  refine ⟨_, hE.at_ hn, ?_⟩
  rw [addr_add, show soff a + j = soff a + j / sz * sz + j % sz from by omega, hE.cell _ _ hi hm]
  exact hfl.symm

/-- A slice type for appends: the element's type, cells and bytes. -/
def appT (P : Program) (T : TypeId) : Option (TypeId × Nat × Nat) :=
  match P.underlying T with
  | some (.slice e) => match P.info? e with
    | some inf => match inf.zero with
      | some z => if z.cells.size = inf.size ∧ 0 < inf.size then some (e, inf.size, inf.bytes) else none
      | none => none
    | none => none
  | _ => none
theorem appT_spec {T e : TypeId} {sz by_ : Nat} (h : appT P T = some (e, sz, by_)) : ∃ inf z, P.underlying T = some (.slice e) ∧ P.info? e = some inf ∧ inf.zero = some z ∧ inf.size = sz ∧ inf.bytes = by_ ∧ z.cells.size = sz ∧ 0 < sz := by
  unfold appT at h
  split at h
  · rename_i e' hu
    split at h
    · rename_i inf hi
      split at h
      · rename_i z hz
        split at h
        · rename_i hc
          cases h
          exact ⟨inf, z, hu, hi, hz, rfl, rfl, hc.1, hc.2⟩
        · cases h
      · cases h
    · cases h
  · cases h

/-- What an append to an own slice comes to, in one world. -/
theorem run_append_os {T e ty : TypeId} {sz by_ : Nat} {W w : World} {M A : Heap} {gs : Own} {es news : List (List Value)} {ao : Option Addr} {m c : Nat} (hT : appT P T = some (e, sz, by_)) (hE : Eff W M (A ++ osL e gs) w) (hos : OS sz gs es)
    (hm : news.length = m) (hn : ∀ x ∈ news, x.length = sz) (hc : ∀ j u, news.flatten[j]? = some u → ∃ a, ao = some a ∧ w.cell? (a.add j) = some u) (hp : ∀ x ∈ news, ∀ u ∈ x, u.oneCell' = true)
    (hb : (es.length + m) * by_ ≤ 140737488355328) (h63 : es.length + m ≤ 9223372036854775807) :
    ∃ g' w', (Builtin.append_ #[T, T] ty #[osV gs es.length, .slice ao m c]).run P w = .ok (osV g' (es.length + m)) w' ∧ OS sz g' (es ++ news) ∧ Eff W M (A ++ osL e g') w' := by
  obtain ⟨inf, z, hu, hi, hz, hsz, hby, hzc, hpos⟩ := appT_spec hT
  have h63' : es.length + m ≤ maxLen := by simpa [maxLen] using h63
  have hfl : news.flatten.length = m * sz := by rw [flatten_length hn, hm]
  have hlen' : ∀ x ∈ es ++ news, x.length = sz := fun x hx => by rcases List.mem_append.1 hx with h | h; (· exact hos.len x h); exact hn x h
  by_cases hm0 : m = 0
  · -- nothing to append
    subst hm0
    have hnil : news = [] := List.eq_nil_of_length_eq_zero hm
    subst hnil
    refine ⟨gs, w, ?_, by simpa using hos, hE⟩
    have hroom : es.length + 0 ≤ osC gs := by
      cases gs with
      | e a => have := hos.at_; simp only at this; subst this; simp
      | b n c l => exact hos.at_.1
    have hf : (Builtin.firstCells inf.size 0 (.slice ao 0 c)).run P w = .ok #[] w := by
      cases ao with
      | none => simp [Builtin.firstCells, Sem.run_pure]
      | some a => simp [Builtin.firstCells, loadCells, loadCellsFrom, Sem.run_pure]
    simp only [Nat.add_zero] at hroom ⊢
    cases hg : osA gs with
    | none => simp [Builtin.append_, run_underlying hu, Go.sizeOf, typeInfo, hi, Builtin.lenOf, hroom, hf, hg]
    | some a => simp [Builtin.append_, run_underlying hu, Go.sizeOf, typeInfo, hi, Builtin.lenOf, hroom, hf, hg, storeCells]
  · -- something
    have hfpos : 0 < news.flatten.length := by rw [hfl]; exact Nat.mul_pos (by omega) hpos
    obtain ⟨ad, rfl, _⟩ := hc 0 _ (List.getElem?_eq_getElem hfpos)
    have hnews : ∀ j u, news.flatten[j]? = some u → w.cell? (ad.add j) = some u := fun j u hj => by
      obtain ⟨a, ha, h⟩ := hc j u hj
      cases ha
      exact h
    have h1 : ∀ u ∈ news.flatten, u.oneCell' = true := fun u hu => by
      obtain ⟨x, hx, hux⟩ := List.mem_flatten.1 hu
      exact hp x hx u hux
    -- what comes of a grown row
    have fin : ∀ (v' : Value) (w' : World), (Builtin.append_ #[T, T] ty #[osV gs es.length, .slice (some ad) m c]).run P w = .ok v' w' → w'.ownsRow w.heap.size e sz v' (es.length + m) (es.flatten ++ news.flatten) → w.grownBy w' none →
        ∃ g' w', (Builtin.append_ #[T, T] ty #[osV gs es.length, .slice (some ad) m c]).run P w = .ok (osV g' (es.length + m)) w' ∧ OS sz g' (es ++ news) ∧ Eff W M (A ++ osL e g') w' := by
      intro v' w' hr hrow hgr
      rcases hrow.2 with ⟨_, h0⟩ | ⟨n, cap, cur, rfl, hbn, hcur, hle, hmax, hcs, htk⟩
      · omega
      · have hsub : Eff W M A w := hE.sub (by
          cases gs with
          | e a => rw [show osL e (.e a) = [] from rfl, List.append_nil]; exact .r
          | b n c l =>
            rw [show osL e (.b n c l) = [(n, blk l e)] from rfl]
            refine .d A.length ?_
            rw [List.eraseIdx_append_of_length_le (Nat.le_refl _)]
            simpa using .r)
        have hnl : n < w'.heap.size := by rw [Array.getElem?_eq_some_iff] at hcur; exact hcur.1
        have hold : ∀ k, k < w.heap.size → w'.heap[k]? = w.heap[k]? := fun k hk => hgr.block k hk (by simp)
        refine ⟨.b n cap cur.toList, w', hr, ⟨hlen', by rw [List.length_append, hm]; exact hle, hmax, by simpa using hcs, ?_⟩, ?_⟩
        · rw [List.length_append, hm, List.flatten_append]; exact htk
        · refine ⟨hgr.os.trans hsub.os, hgr.tape.trans hsub.tape, hgr.output.trans hsub.output, Nat.le_trans hsub.size hgr.size, fun k hk hM => ?_, fun p hp => ?_, fun p hp => ?_, hsub.old, ?_⟩
          · rw [hold k (Nat.lt_of_lt_of_le hk hsub.size)]; exact hsub.frame k hk hM
          · simp only [osL, List.mem_append, List.mem_singleton] at hp
            rcases hp with hp | hp | rfl
            · rw [hold _ (hsub.lt (by simp [hp]))]; exact hsub.own p (by simp [hp])
            · rw [hold _ (hsub.lt (by simp [hp]))]; exact hsub.own p (by simp [hp])
            · simpa using hcur
          · simp only [osL, List.mem_append, List.mem_singleton] at hp
            rcases hp with hp | rfl
            · exact hsub.new p hp
            · exact Nat.le_trans hsub.size hbn
          · have hnd := hsub.nd
            rw [← List.append_assoc, List.map_append, List.nodup_append]
            refine ⟨hnd, by simp [osL], fun a ha b hb => ?_⟩
            simp only [osL, List.map_cons, List.map_nil, List.mem_singleton] at hb
            subst hb
            obtain ⟨q, hq, rfl⟩ := List.mem_map.1 ha
            have := hsub.lt hq
            omega
    cases gs with
    | e a =>
      have h0 := hos.at_
      simp only at h0
      subst h0
      cases a with
      | none =>
        obtain ⟨v', w', hr, hrow, hgr, _⟩ := run_append_own (P := P) w w.heap.size T ty e inf z sz by_ hu hi hz hsz hby hzc hpos (.slice none 0 0) 0 [] (World.ownsRow_nil w _ e sz) ad m c news.flatten hfl hnews h1 (by simpa using h63') (by simpa using hb) (Nat.le_refl _)
        exact fin v' w' hr (by simpa using hrow) hgr
      | some a =>
        obtain ⟨v', w', hr, hrow, hgr⟩ := run_append_arg_grows (P := P) w T ty e inf z sz by_ hu hi hz hsz hby hzc hpos a 0 0 [] (by simp) (by simp) ad m c news.flatten hfl hnews (by omega) (by simpa using h63') (by simpa using hb)
        exact fin v' w' hr (by simpa using hrow) hgr
    | b n cap l =>
      obtain ⟨h1c, h2c, h3c, h4c⟩ := hos.at_
      have hblk : w.heap[n]? = some (blk l e) := hE.own (n, blk l e) (by simp [osL])
      by_cases hroom : es.length + m ≤ cap
      · have hfit : es.length * sz + news.flatten.length ≤ l.toArray.size := by
          rw [hfl, List.size_toArray, h3c, ← Nat.add_mul]; exact Nat.mul_le_mul_right _ hroom
        subst hsz
        have hr := run_append_room (P := P) w T ty e inf hu hi n es.length cap l.toArray hblk ad m c news.flatten hfl hnews h1 hroom hfit
        refine ⟨.b n cap (l.take (es.length * inf.size) ++ news.flatten ++ l.drop (es.length * inf.size + news.flatten.length)), _, hr, ⟨hlen', by rw [List.length_append, hm]; exact hroom, h2c, ?_, ?_⟩, ?_⟩
        · simp only [List.length_append, List.length_take, List.length_drop]
          simp only [List.size_toArray] at hfit
          omega
        · have : (es ++ news).length * inf.size = (es.flatten ++ news.flatten).length := by
            rw [← List.flatten_append, flatten_length hlen']
          rw [this, h4c, List.flatten_append]
          exact List.take_left
        · have hi' : (A ++ osL e (.b n cap l))[A.length]? = some (n, blk l e) := by rw [List.getElem?_append_right (Nat.le_refl _)]; simp [osL]
          have hset := setRow_heap w n l.toArray (l.take (es.length * inf.size) ++ news.flatten ++ l.drop (es.length * inf.size + news.flatten.length)).toArray e (0, 0) hblk
          have hupd := hE.updL (w' := w.setRow n (l.take (es.length * inf.size) ++ news.flatten ++ l.drop (es.length * inf.size + news.flatten.length)).toArray) (i := A.length) hi' hset (fun k hk => setRow_other w n k _ hk) (by simp [World.setRow]) rfl rfl rfl
          have hu : ∀ (A : Heap) (o : Obj), upd (A ++ osL e (.b n cap l)) A.length o = A ++ [(n, o)] := by
            intro A o
            induction A with
            | nil => simp [osL, upd]
            | cons p A ih => simp [upd, ih]
          rw [hu] at hupd
          exact hupd
      · have holds : ∀ j u, es.flatten[j]? = some u → w.cell? ((⟨n, 0, none⟩ : Addr).add j) = some u := fun j u hj => by
          rw [addr_add, Nat.zero_add, cell_blk hblk]
          have hlt := (List.getElem?_eq_some_iff.1 hj).1
          rw [flatten_length hos.len] at hlt
          rw [← h4c, List.getElem?_take, if_pos hlt] at hj
          exact hj
        obtain ⟨v', w', hr, hrow, hgr⟩ := run_append_arg_grows (P := P) w T ty e inf z sz by_ hu hi hz hsz hby hzc hpos ⟨n, 0, none⟩ es.length cap es.flatten (flatten_length hos.len) holds ad m c news.flatten hfl hnews (by omega) h63' hb
        exact fin v' w' hr hrow hgr

/-- append to an own slice. -/
theorem eAppend {T e : TypeId} {sz by_ : Nat} {x y : Operand} {gs : Own} (A : Heap) {es : List (List Value)} (news : List (List Value)) {ao : Option Addr} {m c : Nat} (hT : appT P T = some (e, sz, by_)) (hx : opd S x = some (osV gs es.length)) (hy : opd S y = some (.slice ao m c)) (hL : SubP (A ++ osL e gs) L) (hos : OS sz gs es)
    (hm : news.length = m) (hn : ∀ x ∈ news, x.length = sz) (hc : SlN (Eff W M L) ao news.flatten) (hp : ∀ x ∈ news, ∀ u ∈ x, u.oneCell' = true) (hb : (es.length + m) * by_ ≤ 140737488355328) (h63 : es.length + m ≤ 9223372036854775807)
    (k : ∀ g', OS sz g' (es ++ news) → Tr (St N ((d, osV g' (es ++ news).length) :: S) D W M (A ++ osL e g')) next) :
    Tr (St N S D W M L) (opW P ro N ⟨some d, .call ⟨.builtin .append, #[x, y], #[T, T]⟩, ty, pos, af, g⟩ next Q) := fun a w hs hN => by
  obtain ⟨g', w', hr, ho, hE⟩ := run_append_os (P := P) (ty := ty) (c := c) hT (hs.ef.sub hL) hos hm hn (fun j u hj => hc w hs.ef j u hj) hp hb h63
  have hlen : (es ++ news).length = es.length + m := by rw [List.length_append, hm]
  refine opW_value (w' := w') (v := osV g' (es ++ news).length) rfl ?_ (k g' ho _ _ ((hs.put (hN d rfl) _).eff hE)) hN
  · rw [hlen]
    simp [execOp, resolve, hs.knows x _ hx, hs.knows y _ hy, invoke, builtin, hr]
/-- The same, in a region that draws. -/
theorem fAppend {T e : TypeId} {sz by_ : Nat} {x y : Operand} {gs : Own} (A : Heap) {es : List (List Value)} (news : List (List Value)) {ao : Option Addr} {m c : Nat} (hT : appT P T = some (e, sz, by_)) (hx : opd S x = some (osV gs es.length)) (hy : opd S y = some (.slice ao m c)) (hL : SubP (A ++ osL e gs) L) (hos : OS sz gs es)
    (hm : news.length = m) (hn : ∀ x ∈ news, x.length = sz) (hc : SlN (Eff W M L) ao news.flatten) (hp : ∀ x ∈ news, ∀ u ∈ x, u.oneCell' = true) (hb : (es.length + m) * by_ ≤ 140737488355328) (h63 : es.length + m ≤ 9223372036854775807) :
    Tr (St N S D W M L) (opW P ro N ⟨some d, .call ⟨.builtin .append, #[x, y], #[T, T]⟩, ty, pos, af, g⟩ (fun a w => ∃ g' : {g' // OS sz g' (es ++ news)}, St N ((d, osV g'.1 (es ++ news).length) :: S) D W M (A ++ osL e g'.1) a w) Q) :=
  eAppend A news hT hx hy hL hos hm hn hc hp hb h63 fun g' h => trTo (Y := fun g' : {g' // OS sz g' (es ++ news)} => St N ((d, osV g'.1 (es ++ news).length) :: S) D W M (A ++ osL e g'.1)) ⟨g', h⟩ trSelf
end
end ZW
