/-
  Texts Row, RowK, RowM in one.
-/
import Derived.Test.YtlcdohhhhlhpmaaP0
import Derived.Test.YtlcdohhhhlhpmaaRows
import Derived.ProofKit
import Derived.Deep.Slices
import Derived.WideKeyArgs
import Derived.Test.YtlcdohhhhlhpmaaP1
namespace Go.Proofs.Ytlcdohhhhlhpmaa
open Go.ChangeShapes Go.WideShapes Go.ChangeAt Go.RowKit ZW

theorem Try.own : ownKnob Try.prog.godebug = none := by kernel_rfl
theorem Try.laidOut : laidOutB Try.prog = true := by kernel_rfl

section
variable {H : Type} {enc : TypeId × Value → H} {P : Program}
/-- Each argument reads behind the call as it read before. -/
theorem post_of_below {f : Func} {s : ChangeSpec} {apart fresh handsOn again : Bool} {W W' : World} {args : Array Value} {v : Value} {ds gs : List (DataW H)} {before pa pv : List MemPlace}
    (hW : DataW.Whole enc P f.params.toList s.vars apart W args.toList ds gs before) (hb : Below W.heap.size W W')
    (hres : ∀ (b : Nat) (sp : Nat → Bool) (hd : Bool), DataW.TrodAll enc P W' b sp hd f.resultTypes.toList (v.resultList f.resultTypes.size) (s.fn H (ds ++ gs)).results [])
    (hargs : ∀ sp : Nat → Bool, (∀ p ∈ before, sp p.block = true) → DataW.TrodAll enc P W' 0 sp true f.params.toList args.toList (s.fn H (ds ++ gs)).args pa)
    (hvars : ∀ sp : Nat → Bool, (∀ p ∈ before, sp p.block = true) → DataW.TrodVars enc P W' sp s.vars (s.fn H (ds ++ gs)).vars pv)
    (hps : before = pa ++ pv)
    (hok : ∀ (j : Nat) (t : TypeId) (r : Value), f.resultTypes[j]? = some t → (v.resultList f.resultTypes.size)[j]? = some r → Value.okWide P W' .any 0 t r) :
    s.post enc P f apart fresh handsOn again W args v W' := by
  have hlt : ∀ p ∈ before, p.block < W.heap.size := fun p hp => hW.lt p hp
  have hold : ∀ p ∈ before, (fun b => decide (b < W.heap.size)) p.block = true := fun p hp => by simpa using hlt p hp
  refine ⟨ds, gs, before, [], pa, pv, hW, hres _ _ _, hargs _ hold, hvars _ hold, hb.frame _, fun _ => ?_⟩
  obtain ⟨_, _, _, _, _, hz, hn⟩ := hW
  refine ⟨hok, _, _, ([] ++ pa) ++ pv, ⟨[] ++ pa, pv, trodAll_append (hargs _ (fun _ _ => rfl)) (hres _ _ _), hvars _ (fun _ _ => rfl), rfl, ?_, ?_⟩, ?_⟩
  · intro b off hp
    have hp' : MemPlace.cell b off ∈ before := by rw [hps]; simpa using hp
    rw [hb.frozen (p := ⟨b, off, none⟩) (hlt _ hp')]
    exact hz b off hp'
  · intro ha
    have := hn ha
    rw [hps] at this
    simpa using this
  · intro p hp _
    rw [hps]
    simpa using hp
end
end Go.Proofs.Ytlcdohhhhlhpmaa
namespace Go.Proofs.Ytlcdohhhhlhpmaa
open Go.ChangeShapes Go.WideShapes Go.ChangeAt Go.RowKit Go.Deep ZW

/-- The parts of a type that are no structs: each with its place. -/
def leafs (P : Program) : Nat → TypeId → List (TypeId × Nat)
  | 0, t => [(t, 0)]
  | n + 1, t => match P.underlying t with
    | some (.struct fs) => fs.toList.flatMap fun f => (leafs P n f.type).map fun x => (x.1, f.offset + x.2)
    | _ => [(t, 0)]

theorem prefix_drop {α : Type} {l m : List α} (h : l <+: m) (n : Nat) : l.drop n <+: m.drop n := by
  obtain ⟨r, rfl⟩ := h
  rw [List.drop_append]
  exact ⟨_, rfl⟩

section
variable {H : Type} {enc : TypeId × Value → H} {P : Program} {w : World} {base : Nat} {spare : Nat → Bool} {held : Bool}

theorem leaf_trod : ∀ (n : Nat) {t : TypeId} {fuel : Nat} {cs : List Value} {x : DataW H × List MemPlace}, DataW.trod enc P w base spare held fuel t cs = some x →
    ∀ p ∈ leafs P n t, ∃ (l : List Value) (k : Nat) (y : DataW H × List MemPlace), l <+: cs.drop p.2 ∧ DataW.trod enc P w base spare held k p.1 l = some y
  | 0, t, fuel, cs, x, h, p, hp => by
    simp only [leafs, List.mem_singleton] at hp
    subst hp
    exact ⟨cs, fuel, x, by simp, h⟩
  | n + 1, t, fuel, cs, x, h, p, hp => by
    unfold leafs at hp
    split at hp
    · rename_i fs hs
      obtain ⟨f, hf, hp⟩ := List.mem_flatMap.1 hp
      obtain ⟨q, hq, rfl⟩ := List.mem_map.1 hp
      obtain ⟨xs, k, _, _, _, hlen, hg⟩ := DataW.trod_struct hs h
      obtain ⟨j, hj, rfl⟩ := List.mem_iff_getElem.1 hf
      have hj' : j < fs.size := by simpa using hj
      have h1 := hg j fs[j] (Array.getElem?_eq_getElem hj')
      rw [List.getElem?_eq_getElem (by omega)] at h1
      obtain ⟨l, k', y, hl, hy⟩ := leaf_trod n h1 q (by simpa using hq)
      refine ⟨l, k', y, ?_, hy⟩
      have h2 := List.IsPrefix.trans hl (prefix_drop (List.take_prefix _ _) q.2)
      rw [List.drop_drop] at h2
      simpa using h2
    · simp only [List.mem_singleton] at hp
      subst hp
      exact ⟨cs, fuel, x, by simp, h⟩

theorem pre_at {cs : List Value} {o : Nat} {v : Value} (h : [v] <+: cs.drop o) : cs[o]? = some v := by
  obtain ⟨r, hr⟩ := h
  have : (cs.drop o)[0]? = some v := by rw [← hr]; rfl
  simpa using this
theorem leaf_int {n fuel : Nat} {t u : TypeId} {o : Nat} {k : IntKind} {cs : List Value} {x : DataW H × List MemPlace} (h : DataW.trod enc P w base spare held fuel t cs = some x) (hp : (leafs P n t).elem (u, o) = true) (hu : P.underlying u = some (.int k)) :
    ∃ i, cs[o]? = some (.int k i) ∧ (Lit.int k i).wf = true := by
  obtain ⟨l, k', y, hl, hy⟩ := leaf_trod n h (u, o) (List.elem_iff.1 hp)
  obtain ⟨i, rfl, _, hw⟩ := DataW.trod_int hu hy
  exact ⟨i, pre_at hl, hw⟩
theorem leaf_bool {n fuel : Nat} {t u : TypeId} {o : Nat} {cs : List Value} {x : DataW H × List MemPlace} (h : DataW.trod enc P w base spare held fuel t cs = some x) (hp : (leafs P n t).elem (u, o) = true) (hu : P.underlying u = some .bool) :
    ∃ b, cs[o]? = some (.bool b) := by
  obtain ⟨l, k', y, hl, hy⟩ := leaf_trod n h (u, o) (List.elem_iff.1 hp)
  obtain ⟨b, rfl, _⟩ := DataW.trod_bool hu hy
  exact ⟨b, pre_at hl⟩

/-- A slice of elements that are told by cells. -/
theorem open_rows {α : Type} (f : α → List Value) (d : α) {Q : α → Prop} {sz : Nat} (hsz : ∀ x, (f x).length = sz) (hpos : 0 < sz) {t e : TypeId} {fuel : Nat} {cs : List Value} {x : DataW H × List MemPlace}
    (ht : P.underlying t = some (.slice e)) (hC : P.cellsOf e = sz) (hel : ∀ (n : Nat) (c : List Value) (y : DataW H × List MemPlace), DataW.trod enc P w base spare held n e c = some y → ∃ x, c = f x ∧ Q x)
    (h : DataW.trod enc P w base spare held fuel t cs = some x) :
    ∃ (a : Option Addr) (len cap : Nat) (l : List α), cs = [.slice a len cap] ∧ l.length = len ∧ len ≤ cap ∧ cap ≤ maxLen ∧ SlE w a len sz (fun i => f (l.getD i d)) ∧ ∀ x ∈ l, Q x := by
  rcases open_slice ht h with ⟨rfl, _⟩ | ⟨a, len, cap, m, n, D, Pl, rfl, hb, hl, hm, hmm, _, hi⟩
  · exact ⟨none, 0, 0, [], rfl, rfl, Nat.le_refl _, by decide, SlE.nil, by simp⟩
  · have hlm : len ≤ m := by rw [hmm]; split <;> omega
    have hx : ∀ i, i < len → ∃ x : α, Q x ∧ ∀ j, j < sz → w.cell? (a.add (i * sz + j)) = (f x)[j]? := fun i hil => by
      obtain ⟨cs', hc, ht'⟩ := hi i (by omega)
      rw [hC] at hc
      obtain ⟨x, rfl, hQ⟩ := hel _ _ _ ht'
      obtain ⟨_, hcl, hat⟩ := World.cells?_some hc
      exact ⟨x, hQ, fun j hj => by rw [← hat j hj, Deep.add_add]⟩
    have hspot : 0 < len → a = ⟨a.block, a.off, none⟩ := fun h0 => by
      obtain ⟨x, _, hc⟩ := hx 0 h0
      have h1 := hc 0 hpos
      rw [List.getElem?_eq_getElem (by rw [hsz]; exact hpos)] at h1
      obtain ⟨b, o, s⟩ := a
      have hs : s = none := by simpa [Addr.add] using World.cell?_spot h1
      rw [hs]
    have hlist : ∀ k, k ≤ len → ∃ l : List α, l.length = k ∧ ∀ i, i < k → Q (l.getD i d) ∧ ∀ j, j < sz → w.cell? (a.add (i * sz + j)) = (f (l.getD i d))[j]? := fun k => by
      induction k with
      | zero => exact fun _ => ⟨[], rfl, fun i hi => absurd hi (by omega)⟩
      | succ k ih =>
        intro hk
        obtain ⟨l, hl, hall⟩ := ih (by omega)
        obtain ⟨x, hQ, hc⟩ := hx k (by omega)
        refine ⟨l ++ [x], by simp [hl], fun i hi => ?_⟩
        rcases Nat.lt_or_ge i k with h1 | h1
        · have e : (l ++ [x]).getD i d = l.getD i d := by
            simp [List.getD, List.getElem?_append_left (show i < l.length by omega)]
          rw [e]; exact hall i h1
        · obtain rfl : i = k := by omega
          have e : (l ++ [x]).getD i d = x := by simp [List.getD, ← hl]
          rw [e]; exact ⟨hQ, hc⟩
    obtain ⟨l, hll, hall⟩ := hlist len (Nat.le_refl _)
    refine ⟨some a, len, cap, l, rfl, hll, hl, hm, ⟨fun i _ => hsz _, fun h0 => by rw [hspot h0]; rfl, fun i j hi hj => ?_⟩, fun x hx => ?_⟩
    · have h1 := (hall i hi).2 j hj
      rw [← h1, hspot (by omega)]
      simp only [Addr.add, sblk, soff, Option.getD_some]
      rw [Nat.add_assoc]
      split
      · rename_i hz; rw [hz]; rfl
      · rfl
    · obtain ⟨i, hi, rfl⟩ := List.mem_iff_getElem.1 hx
      have := (hall i (by omega)).1
      rwa [← List.getElem_eq_getD (h := hi)] at this
end
end Go.Proofs.Ytlcdohhhhlhpmaa
namespace Go.Proofs.Ytlcdohhhhlhpmaa
open Go.ChangeShapes Go.WideShapes Go.ChangeAt Go.RowKit Go.Deep ZW

section
variable {H : Type} {enc : TypeId × Value → H} {P : Program}
theorem stays_all (hl : laidOutB P = true) {W W' : World} {sp : Nat → Bool} : ∀ {ts : List TypeId} {vs : List Value} {ds : List (DataW H)} {ps : List MemPlace}, (ts.all fun t => P.readableRec t && decide (t < P.types.size)) = true →
    DataW.TrodAll enc P W 0 (fun _ => true) true ts vs ds ps → (∀ p ∈ ps, W.sameAt W' p) → (∀ p ∈ ps, sp p.block = true) → DataW.TrodAll enc P W' 0 sp true ts vs ds ps
  | [], vs, ds, ps, _, h, _, _ => by
    obtain ⟨rfl, rfl, rfl⟩ := trodAll_nil h
    rfl
  | t :: ts, vs, ds, ps, hr, h, hs, hp => by
    obtain ⟨v, vs', d, ds', p, q, rfl, rfl, rfl, h1, h2⟩ := trodAll_cons h
    simp only [List.all_cons, Bool.and_eq_true, decide_eq_true_eq] at hr
    exact ⟨p, q, WideElems.Trod_stays hl hr.1.1 hr.1.2 h1 (fun x hx => hs x (List.mem_append_left _ hx)) (fun x hx => hp x (List.mem_append_left _ hx)),
      stays_all hl (by simp only [List.all_eq_true, Bool.and_eq_true, decide_eq_true_eq]; exact List.all_eq_true.1 hr.2 |> fun h x hx => by simpa using h x hx) h2 (fun x hx => hs x (List.mem_append_right _ hx)) (fun x hx => hp x (List.mem_append_right _ hx)), rfl⟩

theorem post_true {f : Func} {s : ChangeSpec} {W W' : World} {args : Array Value} {ds gs : List (DataW H)} {before : List MemPlace} (hl : laidOutB P = true) (h4 : P.underlying 4 = some .bool) (hf : f.resultTypes = #[4])
    (hr : (f.params.toList.all fun t => P.readableRec t && decide (t < P.types.size)) = true) (hv : s.vars = []) (hs : s.fn H (ds ++ gs) = { results := [.lit (.bool true)], args := ds })
    (hW : DataW.Whole enc P f.params.toList s.vars false W args.toList ds gs before) (hb : Below W.heap.size W W') : s.post enc P f false true false false W args (.bool true) W' := by
  have hW' := hW
  have hlt := hW.lt
  obtain ⟨p, q, hA, hV, rfl, hfz, hnd⟩ := hW
  have hV2 := hV
  rw [hv] at hV
  obtain ⟨rfl, rfl⟩ := trodVars_none hV
  have hsame : ∀ x ∈ p, W.sameAt W' x := fun x hx => by
    have h1 := hlt x (by simpa using hx)
    cases x with
    | cell b off => exact hb.cell (p := ⟨b, off, none⟩) h1
    | map b => exact hb.block b h1
  refine post_of_below (pa := p) (pv := []) hW' hb (fun b sp hd => ?_) (fun sp hsp => ?_) (fun sp _ => ?_) (by simp) ?_
  · rw [hs, hf]
    exact trodAll_mk1 (shut_bool h4 true)
  · rw [hs]
    exact stays_all hl hr hA hsame fun x hx => hsp x (by simpa using hx)
  · rw [hs, hv]; rfl
  · exact ok_one hf rfl (okWide_bool_mk h4 true)
end

theorem wf64 {n : Int} (h : (Lit.int .i64 n).wf = true) : In64 n := by
  simp only [Lit.wf, Bool.and_eq_true, decide_eq_true_eq] at h
  exact h

def strT (P : Program) (t : TypeId) : Bool := match P.underlying t with
  | some (.struct _) => true
  | _ => false
section
variable {H : Type} {enc : TypeId × Value → H} {w : World} {base : Nat} {spare : Nat → Bool} {held : Bool}
theorem okWide_struct' {P : Program} {r : Reach} {b0 : Nat} {t : TypeId} {v : Value} (hs : strT P t = true) (hv : Value.okWide P w r b0 t v) : ∃ cs, v = .agg cs ∧ cs.size = P.cellsOf t := by
  unfold strT at hs
  split at hs
  · rename_i fs he
    exact okWide_struct he hv
  · cases hs
theorem trod_len {P : Program} {t : TypeId} {sz n : Nat} {c : List Value} {y : DataW H × List MemPlace} (hs : strT P t = true) (hC : P.cellsOf t = sz) (h : DataW.trod enc P w base spare held n t c = some y) : c.length = sz := by
  unfold strT at hs
  split at hs
  · rename_i fs he
    obtain ⟨_, _, _, _, hl, _⟩ := DataW.trod_struct he h
    exact hl.trans hC
  · cases hs
theorem list2 {c : List Value} {a b : Value} (hl : c.length = 2) (h0 : c[0]? = some a) (h1 : c[1]? = some b) : c = [a, b] := by
  match c, hl with
  | [x, y], _ => simp at h0 h1; rw [h0, h1]
theorem list9 {c : List Value} {a0 a1 a2 a3 a4 a5 a6 a7 a8 : Value} (hl : c.length = 9) (h0 : c[0]? = some a0) (h1 : c[1]? = some a1) (h2 : c[2]? = some a2) (h3 : c[3]? = some a3) (h4 : c[4]? = some a4) (h5 : c[5]? = some a5) (h6 : c[6]? = some a6) (h7 : c[7]? = some a7) (h8 : c[8]? = some a8) : c = [a0, a1, a2, a3, a4, a5, a6, a7, a8] := by
  match c, hl with
  | [x0, x1, x2, x3, x4, x5, x6, x7, x8], _ => simp at h0 h1 h2 h3 h4 h5 h6 h7 h8; rw [h0, h1, h2, h3, h4, h5, h6, h7, h8]
theorem list3 {c : List Value} {a b d : Value} (hl : c.length = 3) (h0 : c[0]? = some a) (h1 : c[1]? = some b) (h2 : c[2]? = some d) : c = [a, b, d] := by
  match c, hl with
  | [x, y, z], _ => simp at h0 h1 h2; rw [h0, h1, h2]
theorem elS (n : Nat) (c : List Value) (y : DataW H × List MemPlace) (h : DataW.trod enc Try.prog w base spare held n 58 c = some y) : ∃ x : StarV, c = rowS x := by
  obtain ⟨a0, h0, _⟩ := leaf_int (n := 3) (u := 3) (o := 0) h (by kernel_rfl) U3
  obtain ⟨a1, h1, _⟩ := leaf_int (n := 3) (u := 3) (o := 1) h (by kernel_rfl) U3
  obtain ⟨a2, h2, _⟩ := leaf_int (n := 3) (u := 3) (o := 2) h (by kernel_rfl) U3
  obtain ⟨a3, h3, _⟩ := leaf_int (n := 3) (u := 3) (o := 3) h (by kernel_rfl) U3
  obtain ⟨a5, h5, _⟩ := leaf_int (n := 3) (u := 3) (o := 5) h (by kernel_rfl) U3
  obtain ⟨a6, h6, _⟩ := leaf_int (n := 3) (u := 3) (o := 6) h (by kernel_rfl) U3
  obtain ⟨a7, h7, _⟩ := leaf_int (n := 3) (u := 3) (o := 7) h (by kernel_rfl) U3
  obtain ⟨a8, h8, _⟩ := leaf_int (n := 3) (u := 3) (o := 8) h (by kernel_rfl) U3
  obtain ⟨k, hk⟩ := leaf_bool (n := 3) (u := 4) (o := 4) h (by kernel_rfl) U4
  exact ⟨⟨(a0, a1), (a2, a3), k, (a5, a6), (a7, a8)⟩, list9 (trod_len (by kernel_rfl) (by kernel_rfl) h) h0 h1 h2 h3 hk h5 h6 h7 h8⟩
theorem elE (n : Nat) (c : List Value) (y : DataW H × List MemPlace) (h : DataW.trod enc Try.prog w base spare held n 23 c = some y) : ∃ x : Int × Int, c = rowE x := by
  obtain ⟨a, ha, wa⟩ := leaf_int (n := 2) (u := 3) (o := 0) h (by kernel_rfl) U3
  obtain ⟨b, hb, wb⟩ := leaf_int (n := 2) (u := 3) (o := 1) h (by kernel_rfl) U3
  exact ⟨(a, b), list2 (trod_len (by kernel_rfl) (by kernel_rfl) h) ha hb⟩
set_option maxRecDepth 100000 in
theorem open_plate {v : Value} {d : DataW H} {ps : List MemPlace} {r : Reach} {b0 : Nat} (hv : Value.okWide Try.prog w r b0 26 v) (h : DataW.Trod enc Try.prog w base spare held 26 v d ps) :
    ∃ (y : Option Addr × Nat) (p : Plt), v = .agg (pltC y p).toArray ∧ InP w y p ∧ y.2 ≤ maxLen := by
  obtain ⟨fuel, h⟩ := h
  obtain ⟨c, rfl, hsz⟩ := okWide_struct' (by kernel_rfl) hv
  have h : DataW.trod enc Try.prog w base spare held fuel 26 c.toList = some (d, ps) := h
  have hl := trod_len (sz := 3) (by kernel_rfl) (by kernel_rfl) h
  obtain ⟨ls, ks, ys, pq, ts⟩ := leaf_trod 3 h (24, 2) (List.elem_iff.1 (by kernel_rfl))
  obtain ⟨sa, sn, sc, l, rfl, hsn, _, hcap, hs, _⟩ := open_rows (Q := fun _ => True) rowS star0 (sz := 9) (fun _ => rfl) (by decide) U24 (by kernel_rfl) (fun n c y h => by obtain ⟨x, hx⟩ := elS n c y h; exact ⟨x, hx, trivial⟩) ts
  obtain ⟨e1, he1, w1⟩ := leaf_int (n := 3) (u := 3) (o := 0) h (by kernel_rfl) U3
  obtain ⟨e2, he2, w2⟩ := leaf_int (n := 3) (u := 3) (o := 1) h (by kernel_rfl) U3
  refine ⟨(sa, sc), ⟨(e1, e2), l⟩, ?_, ?_, hcap⟩
  · subst hsn
    obtain ⟨c⟩ := c
    have h2 := pre_at pq
    simp only at h2 he1 he2 hl
    congr 1
    match c, hl with
    | [x0, x1, x2], _ =>
      simp at h2 he1 he2
      rw [h2, he1, he2]
  · subst hsn; exact hs
set_option maxRecDepth 100000 in
theorem open_span {v : Value} {d : DataW H} {ps : List MemPlace} {r : Reach} {b0 : Nat} (hv : Value.okWide Try.prog w r b0 23 v) (h : DataW.Trod enc Try.prog w base spare held 23 v d ps) :
    ∃ x : Int × Int, v = .agg (rowE x).toArray := by
  obtain ⟨fuel, h⟩ := h
  obtain ⟨c, rfl, hsz⟩ := okWide_struct' (by kernel_rfl) hv
  obtain ⟨x, hx⟩ := elE fuel c.toList _ h
  refine ⟨x, ?_⟩
  congr 1
  rw [← hx]
theorem wfu16 {n : Int} (h : (Lit.int .u16 n).wf = true) : ∃ b : Nat, n = (b : Nat) ∧ b < 65536 := by
  simp only [Lit.wf, Bool.and_eq_true, decide_eq_true_eq] at h
  have h1 : (0 : Int) ≤ n := h.1
  have h2 : n ≤ 65535 := h.2
  exact ⟨n.toNat, by omega, by omega⟩
theorem wfu8 {n : Int} (h : (Lit.int .u8 n).wf = true) : ∃ b : Nat, n = (b : Nat) ∧ b < 256 := by
  simp only [Lit.wf, Bool.and_eq_true, decide_eq_true_eq] at h
  have h1 : (0 : Int) ≤ n := h.1
  have h2 : n ≤ 255 := h.2
  exact ⟨n.toNat, by omega, by omega⟩
/-- Numbers of 16 bits. -/
abbrev l16R (l : List Nat) (i : Nat) : List Value := [.int .u16 (l.getD i 0 : Nat)]
theorem wfi16 {n : Int} (h : (Lit.int .i16 n).wf = true) : -32768 ≤ n ∧ n ≤ 32767 := by
  simp only [Lit.wf, Bool.and_eq_true, decide_eq_true_eq] at h
  exact h
set_option maxRecDepth 100000 in
theorem open_l16 {v : Value} {d : DataW H} {ps : List MemPlace} {r : Reach} {b0 : Nat} (hv : Value.okWide Try.prog w r b0 43 v) (h : DataW.Trod enc Try.prog w base spare held 43 v d ps) :
    ∃ (a : Option Addr) (c : Nat) (l : List Nat), v = .slice a l.length c ∧ SlE w a l.length 1 (l16R l) ∧ ∀ x ∈ l, x < 65536 := by
  obtain ⟨fuel, h⟩ := h
  obtain ⟨a', n', c', rfl⟩ := okWide_slice U43 hv
  obtain ⟨a, len, cap, l, hc, hl, _, _, hs, hq⟩ := open_rows (P := Try.prog) (fun x : Nat => [.int .u16 (x : Nat)]) 0 (sz := 1) (Q := fun x => x < 65536) (fun _ => rfl) (by decide) U43 (by kernel_rfl) (fun n c y h => by
    obtain ⟨i, rfl, _, hw⟩ := DataW.trod_int U60 h
    obtain ⟨b, rfl, hb⟩ := wfu16 hw
    exact ⟨b, rfl, hb⟩) h
  subst hl
  have hc : [Value.slice a' n' c'] = [Value.slice a l.length cap] := hc
  exact ⟨a, cap, l, (List.cons.inj hc).1, hs, hq⟩
end
/-- A plate of nothing. -/
abbrev plt0 : Value := .agg #[i64 0, i64 0, .slice none 0 0]
end Go.Proofs.Ytlcdohhhhlhpmaa
