/-
  Rows that return true and leave their arguments as they were; a plate opened.
-/
import Derived.Test.YtlcdohhhhlhpmaaRowK
import Derived.Test.YtlcdohhhhlhpmaaAa
namespace Go.Proofs.Ytlcdohhhhlhpmaa
open Go.ChangeShapes Go.WideShapes Go.ChangeAt Go.RowKit Go.Deep ZW

section
variable {H : Type} {enc : TypeId × Value → H} {P : Program}
theorem stays_all (hl : laidOutB P = true) {W W' : World} {sp : Nat → Bool} : ∀ {ts : List TypeId} {vs : List Value} {ds : List (DataW H)} {ps : List MemPlace}, (ts.all fun t => P.readableRec t && decide (t < P.types.size)) = true →
    DataW.TrodAll enc P W 0 (fun _ => true) true ts vs ds ps → (∀ p ∈ ps, W.sameAt W' p) → (∀ p ∈ ps, sp p.block = true) → DataW.TrodAll enc P W' 0 sp true ts vs ds ps
  | [], vs, ds, ps, _, h, _, _ => by
    obtain ⟨rfl, rfl, rfl⟩ := trodAll_nil h
    rfl
  | t :: ts, vs, ds, ps, hr, h, hs, hp => by
    obtain ⟨v, vs', d, ds', p, q, rfl, rfl, rfl, h1, h2⟩ := trodAll_cons h
    simp only [List.all_cons, Bool.and_eq_true, decide_eq_true_eq] at hr
    exact ⟨p, q, WideElems.Trod_stays hl hr.1.1 hr.1.2 h1 (fun x hx => hs x (List.mem_append_left _ hx)) (fun x hx => hp x (List.mem_append_left _ hx)),
      stays_all hl (by simp only [List.all_eq_true, Bool.and_eq_true, decide_eq_true_eq]; exact List.all_eq_true.1 hr.2 |> fun h x hx => by simpa using h x hx) h2 (fun x hx => hs x (List.mem_append_right _ hx)) (fun x hx => hp x (List.mem_append_right _ hx)), rfl⟩

theorem post_true {f : Func} {s : ChangeSpec} {W W' : World} {args : Array Value} {ds gs : List (DataW H)} {before : List MemPlace} (hl : laidOutB P = true) (h4 : P.underlying 4 = some .bool) (hf : f.resultTypes = #[4])
    (hr : (f.params.toList.all fun t => P.readableRec t && decide (t < P.types.size)) = true) (hv : s.vars = []) (hs : s.fn H (ds ++ gs) = { results := [.lit (.bool true)], args := ds })
    (hW : DataW.Whole enc P f.params.toList s.vars false W args.toList ds gs before) (hb : Below W.heap.size W W') : s.post enc P f false true false false W args (.bool true) W' := by
  have hW' := hW
  have hlt := hW.lt
  obtain ⟨p, q, hA, hV, rfl, hfz, hnd⟩ := hW
  have hV2 := hV
  rw [hv] at hV
  obtain ⟨rfl, rfl⟩ := trodVars_none hV
  have hsame : ∀ x ∈ p, W.sameAt W' x := fun x hx => by
    have h1 := hlt x (by simpa using hx)
    cases x with
    | cell b off => exact hb.cell (p := ⟨b, off, none⟩) h1
    | map b => exact hb.block b h1
  refine post_of_below (pa := p) (pv := []) hW' hb (fun b sp hd => ?_) (fun sp hsp => ?_) (fun sp _ => ?_) (by simp) ?_
  · rw [hs, hf]
    exact trodAll_mk1 (shut_bool h4 true)
  · rw [hs]
    exact stays_all hl hr hA hsame fun x hx => hsp x (by simpa using hx)
  · rw [hs, hv]; rfl
  · exact ok_one hf rfl (okWide_bool_mk h4 true)
end

theorem wf64 {n : Int} (h : (Lit.int .i64 n).wf = true) : In64 n := by
  simp only [Lit.wf, Bool.and_eq_true, decide_eq_true_eq] at h
  exact h

def strT (P : Program) (t : TypeId) : Bool := match P.underlying t with
  | some (.struct _) => true
  | _ => false
section
variable {H : Type} {enc : TypeId × Value → H} {w : World} {base : Nat} {spare : Nat → Bool} {held : Bool}
theorem okWide_struct' {P : Program} {r : Reach} {b0 : Nat} {t : TypeId} {v : Value} (hs : strT P t = true) (hv : Value.okWide P w r b0 t v) : ∃ cs, v = .agg cs ∧ cs.size = P.cellsOf t := by
  unfold strT at hs
  split at hs
  · rename_i fs he
    exact okWide_struct he hv
  · cases hs
theorem trod_len {P : Program} {t : TypeId} {sz n : Nat} {c : List Value} {y : DataW H × List MemPlace} (hs : strT P t = true) (hC : P.cellsOf t = sz) (h : DataW.trod enc P w base spare held n t c = some y) : c.length = sz := by
  unfold strT at hs
  split at hs
  · rename_i fs he
    obtain ⟨_, _, _, _, hl, _⟩ := DataW.trod_struct he h
    exact hl.trans hC
  · cases hs
theorem list2 {c : List Value} {a b : Value} (hl : c.length = 2) (h0 : c[0]? = some a) (h1 : c[1]? = some b) : c = [a, b] := by
  match c, hl with
  | [x, y], _ => simp at h0 h1; rw [h0, h1]
theorem list9 {c : List Value} {a0 a1 a2 a3 a4 a5 a6 a7 a8 : Value} (hl : c.length = 9) (h0 : c[0]? = some a0) (h1 : c[1]? = some a1) (h2 : c[2]? = some a2) (h3 : c[3]? = some a3) (h4 : c[4]? = some a4) (h5 : c[5]? = some a5) (h6 : c[6]? = some a6) (h7 : c[7]? = some a7) (h8 : c[8]? = some a8) : c = [a0, a1, a2, a3, a4, a5, a6, a7, a8] := by
  match c, hl with
  | [x0, x1, x2, x3, x4, x5, x6, x7, x8], _ => simp at h0 h1 h2 h3 h4 h5 h6 h7 h8; rw [h0, h1, h2, h3, h4, h5, h6, h7, h8]
theorem list3 {c : List Value} {a b d : Value} (hl : c.length = 3) (h0 : c[0]? = some a) (h1 : c[1]? = some b) (h2 : c[2]? = some d) : c = [a, b, d] := by
  match c, hl with
  | [x, y, z], _ => simp at h0 h1 h2; rw [h0, h1, h2]
theorem elS (n : Nat) (c : List Value) (y : DataW H × List MemPlace) (h : DataW.trod enc Try.prog w base spare held n 58 c = some y) : ∃ x : StarV, c = rowS x := by
  obtain ⟨a0, h0, _⟩ := leaf_int (n := 3) (u := 3) (o := 0) h (by kernel_rfl) U3
  obtain ⟨a1, h1, _⟩ := leaf_int (n := 3) (u := 3) (o := 1) h (by kernel_rfl) U3
  obtain ⟨a2, h2, _⟩ := leaf_int (n := 3) (u := 3) (o := 2) h (by kernel_rfl) U3
  obtain ⟨a3, h3, _⟩ := leaf_int (n := 3) (u := 3) (o := 3) h (by kernel_rfl) U3
  obtain ⟨a5, h5, _⟩ := leaf_int (n := 3) (u := 3) (o := 5) h (by kernel_rfl) U3
  obtain ⟨a6, h6, _⟩ := leaf_int (n := 3) (u := 3) (o := 6) h (by kernel_rfl) U3
  obtain ⟨a7, h7, _⟩ := leaf_int (n := 3) (u := 3) (o := 7) h (by kernel_rfl) U3
  obtain ⟨a8, h8, _⟩ := leaf_int (n := 3) (u := 3) (o := 8) h (by kernel_rfl) U3
  obtain ⟨k, hk⟩ := leaf_bool (n := 3) (u := 4) (o := 4) h (by kernel_rfl) U4
  exact ⟨⟨(a0, a1), (a2, a3), k, (a5, a6), (a7, a8)⟩, list9 (trod_len (by kernel_rfl) (by kernel_rfl) h) h0 h1 h2 h3 hk h5 h6 h7 h8⟩
theorem elE (n : Nat) (c : List Value) (y : DataW H × List MemPlace) (h : DataW.trod enc Try.prog w base spare held n 23 c = some y) : ∃ x : Int × Int, c = rowE x := by
  obtain ⟨a, ha, wa⟩ := leaf_int (n := 2) (u := 3) (o := 0) h (by kernel_rfl) U3
  obtain ⟨b, hb, wb⟩ := leaf_int (n := 2) (u := 3) (o := 1) h (by kernel_rfl) U3
  exact ⟨(a, b), list2 (trod_len (by kernel_rfl) (by kernel_rfl) h) ha hb⟩
set_option maxRecDepth 100000 in
theorem open_plate {v : Value} {d : DataW H} {ps : List MemPlace} {r : Reach} {b0 : Nat} (hv : Value.okWide Try.prog w r b0 26 v) (h : DataW.Trod enc Try.prog w base spare held 26 v d ps) :
    ∃ (y : Option Addr × Nat) (p : Plt), v = .agg (pltC y p).toArray ∧ InP w y p ∧ y.2 ≤ maxLen := by
  obtain ⟨fuel, h⟩ := h
  obtain ⟨c, rfl, hsz⟩ := okWide_struct' (by kernel_rfl) hv
  have h : DataW.trod enc Try.prog w base spare held fuel 26 c.toList = some (d, ps) := h
  have hl := trod_len (sz := 3) (by kernel_rfl) (by kernel_rfl) h
  obtain ⟨ls, ks, ys, pq, ts⟩ := leaf_trod 3 h (24, 2) (List.elem_iff.1 (by kernel_rfl))
  obtain ⟨sa, sn, sc, l, rfl, hsn, _, hcap, hs, _⟩ := open_rows (Q := fun _ => True) rowS star0 (sz := 9) (fun _ => rfl) (by decide) U24 (by kernel_rfl) (fun n c y h => by obtain ⟨x, hx⟩ := elS n c y h; exact ⟨x, hx, trivial⟩) ts
  obtain ⟨e1, he1, w1⟩ := leaf_int (n := 3) (u := 3) (o := 0) h (by kernel_rfl) U3
  obtain ⟨e2, he2, w2⟩ := leaf_int (n := 3) (u := 3) (o := 1) h (by kernel_rfl) U3
  refine ⟨(sa, sc), ⟨(e1, e2), l⟩, ?_, ?_, hcap⟩
  · subst hsn
    obtain ⟨c⟩ := c
    have h2 := pre_at pq
    simp only at h2 he1 he2 hl
    congr 1
    match c, hl with
    | [x0, x1, x2], _ =>
      simp at h2 he1 he2
      rw [h2, he1, he2]
  · subst hsn; exact hs
set_option maxRecDepth 100000 in
theorem open_span {v : Value} {d : DataW H} {ps : List MemPlace} {r : Reach} {b0 : Nat} (hv : Value.okWide Try.prog w r b0 23 v) (h : DataW.Trod enc Try.prog w base spare held 23 v d ps) :
    ∃ x : Int × Int, v = .agg (rowE x).toArray := by
  obtain ⟨fuel, h⟩ := h
  obtain ⟨c, rfl, hsz⟩ := okWide_struct' (by kernel_rfl) hv
  obtain ⟨x, hx⟩ := elE fuel c.toList _ h
  refine ⟨x, ?_⟩
  congr 1
  rw [← hx]
theorem wfu16 {n : Int} (h : (Lit.int .u16 n).wf = true) : ∃ b : Nat, n = (b : Nat) ∧ b < 65536 := by
  simp only [Lit.wf, Bool.and_eq_true, decide_eq_true_eq] at h
  have h1 : (0 : Int) ≤ n := h.1
  have h2 : n ≤ 65535 := h.2
  exact ⟨n.toNat, by omega, by omega⟩
theorem wfu8 {n : Int} (h : (Lit.int .u8 n).wf = true) : ∃ b : Nat, n = (b : Nat) ∧ b < 256 := by
  simp only [Lit.wf, Bool.and_eq_true, decide_eq_true_eq] at h
  have h1 : (0 : Int) ≤ n := h.1
  have h2 : n ≤ 255 := h.2
  exact ⟨n.toNat, by omega, by omega⟩
/-- Numbers of 16 bits. -/
abbrev l16R (l : List Nat) (i : Nat) : List Value := [.int .u16 (l.getD i 0 : Nat)]
theorem wfi16 {n : Int} (h : (Lit.int .i16 n).wf = true) : -32768 ≤ n ∧ n ≤ 32767 := by
  simp only [Lit.wf, Bool.and_eq_true, decide_eq_true_eq] at h
  exact h
set_option maxRecDepth 100000 in
theorem open_l16 {v : Value} {d : DataW H} {ps : List MemPlace} {r : Reach} {b0 : Nat} (hv : Value.okWide Try.prog w r b0 43 v) (h : DataW.Trod enc Try.prog w base spare held 43 v d ps) :
    ∃ (a : Option Addr) (c : Nat) (l : List Nat), v = .slice a l.length c ∧ SlE w a l.length 1 (l16R l) ∧ ∀ x ∈ l, x < 65536 := by
  obtain ⟨fuel, h⟩ := h
  obtain ⟨a', n', c', rfl⟩ := okWide_slice U43 hv
  obtain ⟨a, len, cap, l, hc, hl, _, _, hs, hq⟩ := open_rows (P := Try.prog) (fun x : Nat => [.int .u16 (x : Nat)]) 0 (sz := 1) (Q := fun x => x < 65536) (fun _ => rfl) (by decide) U43 (by kernel_rfl) (fun n c y h => by
    obtain ⟨i, rfl, _, hw⟩ := DataW.trod_int U60 h
    obtain ⟨b, rfl, hb⟩ := wfu16 hw
    exact ⟨b, rfl, hb⟩) h
  subst hl
  have hc : [Value.slice a' n' c'] = [Value.slice a l.length cap] := hc
  exact ⟨a, cap, l, (List.cons.inj hc).1, hs, hq⟩
end
/-- A plate of nothing. -/
abbrev plt0 : Value := .agg #[i64 0, i64 0, .slice none 0 0]
end Go.Proofs.Ytlcdohhhhlhpmaa
