/-
  Rows that return true and leave their arguments as they were; a plate opened.
-/
import Derived.Test.YtdpeifbejeflhaaRowK
import Derived.Test.YtdpeifbejeflhaaVo
namespace Go.Proofs.Ytdpeifbejeflhaa
open Go.ChangeShapes Go.WideShapes Go.ChangeAt Go.RowKit Go.Deep ZW

section
variable {H : Type} {enc : TypeId × Value → H} {P : Program}
theorem stays_all (hl : laidOutB P = true) {W W' : World} {sp : Nat → Bool} : ∀ {ts : List TypeId} {vs : List Value} {ds : List (DataW H)} {ps : List MemPlace}, (ts.all fun t => P.readableRec t && decide (t < P.types.size)) = true →
    DataW.TrodAll enc P W 0 (fun _ => true) true ts vs ds ps → (∀ p ∈ ps, W.sameAt W' p) → (∀ p ∈ ps, sp p.block = true) → DataW.TrodAll enc P W' 0 sp true ts vs ds ps
  | [], vs, ds, ps, _, h, _, _ => by
    obtain ⟨rfl, rfl, rfl⟩ := trodAll_nil h
    rfl
  | t :: ts, vs, ds, ps, hr, h, hs, hp => by
    obtain ⟨v, vs', d, ds', p, q, rfl, rfl, rfl, h1, h2⟩ := trodAll_cons h
    simp only [List.all_cons, Bool.and_eq_true, decide_eq_true_eq] at hr
    exact ⟨p, q, WideElems.Trod_stays hl hr.1.1 hr.1.2 h1 (fun x hx => hs x (List.mem_append_left _ hx)) (fun x hx => hp x (List.mem_append_left _ hx)),
      stays_all hl (by simp only [List.all_eq_true, Bool.and_eq_true, decide_eq_true_eq]; exact List.all_eq_true.1 hr.2 |> fun h x hx => by simpa using h x hx) h2 (fun x hx => hs x (List.mem_append_right _ hx)) (fun x hx => hp x (List.mem_append_right _ hx)), rfl⟩

theorem post_true {f : Func} {s : ChangeSpec} {W W' : World} {args : Array Value} {ds gs : List (DataW H)} {before : List MemPlace} (hl : laidOutB P = true) (h4 : P.underlying 4 = some .bool) (hf : f.resultTypes = #[4])
    (hr : (f.params.toList.all fun t => P.readableRec t && decide (t < P.types.size)) = true) (hv : s.vars = []) (hs : s.fn H (ds ++ gs) = { results := [.lit (.bool true)], args := ds })
    (hW : DataW.Whole enc P f.params.toList s.vars false W args.toList ds gs before) (hb : Below W.heap.size W W') : s.post enc P f false true false false W args (.bool true) W' := by
  have hW' := hW
  have hlt := hW.lt
  obtain ⟨p, q, hA, hV, rfl, hfz, hnd⟩ := hW
  have hV2 := hV
  rw [hv] at hV
  obtain ⟨rfl, rfl⟩ := trodVars_none hV
  have hsame : ∀ x ∈ p, W.sameAt W' x := fun x hx => by
    have h1 := hlt x (by simpa using hx)
    cases x with
    | cell b off => exact hb.cell (p := ⟨b, off, none⟩) h1
    | map b => exact hb.block b h1
  refine post_of_below (pa := p) (pv := []) hW' hb (fun b sp hd => ?_) (fun sp hsp => ?_) (fun sp _ => ?_) (by simp) ?_
  · rw [hs, hf]
    exact trodAll_mk1 (shut_bool h4 true)
  · rw [hs]
    exact stays_all hl hr hA hsame fun x hx => hsp x (by simpa using hx)
  · rw [hs, hv]; rfl
  · exact ok_one hf rfl (okWide_bool_mk h4 true)
end

theorem wf64 {n : Int} (h : (Lit.int .i64 n).wf = true) : In64 n := by
  simp only [Lit.wf, Bool.and_eq_true, decide_eq_true_eq] at h
  exact h

def strT (P : Program) (t : TypeId) : Bool := match P.underlying t with
  | some (.struct _) => true
  | _ => false
section
variable {H : Type} {enc : TypeId × Value → H} {w : World} {base : Nat} {spare : Nat → Bool} {held : Bool}
theorem okWide_struct' {P : Program} {r : Reach} {b0 : Nat} {t : TypeId} {v : Value} (hs : strT P t = true) (hv : Value.okWide P w r b0 t v) : ∃ cs, v = .agg cs ∧ cs.size = P.cellsOf t := by
  unfold strT at hs
  split at hs
  · rename_i fs he
    exact okWide_struct he hv
  · cases hs
theorem trod_len {P : Program} {t : TypeId} {sz n : Nat} {c : List Value} {y : DataW H × List MemPlace} (hs : strT P t = true) (hC : P.cellsOf t = sz) (h : DataW.trod enc P w base spare held n t c = some y) : c.length = sz := by
  unfold strT at hs
  split at hs
  · rename_i fs he
    obtain ⟨_, _, _, _, hl, _⟩ := DataW.trod_struct he h
    exact hl.trans hC
  · cases hs
theorem list3 {c : List Value} {a0 a1 a2 : Value} (hl : c.length = 3) (h0 : c[0]? = some a0) (h1 : c[1]? = some a1) (h2 : c[2]? = some a2) : c = [a0, a1, a2] := by
  match c, hl with
  | [x0, x1, x2], _ => simp at h0 h1 h2; rw [h0, h1, h2]
theorem list6 {c : List Value} {a0 a1 a2 a3 a4 a5 : Value} (hl : c.length = 6) (h0 : c[0]? = some a0) (h1 : c[1]? = some a1) (h2 : c[2]? = some a2) (h3 : c[3]? = some a3) (h4 : c[4]? = some a4) (h5 : c[5]? = some a5) : c = [a0, a1, a2, a3, a4, a5] := by
  match c, hl with
  | [x0, x1, x2, x3, x4, x5], _ => simp at h0 h1 h2 h3 h4 h5; rw [h0, h1, h2, h3, h4, h5]
theorem elN (n : Nat) (c : List Value) (y : DataW H × List MemPlace) (h : DataW.trod enc Try.prog w base spare held n 47 c = some y) : ∃ x : NoteV, c = rowNo x := by
  obtain ⟨a0, h0, _⟩ := leaf_int (n := 3) (u := 3) (o := 0) h (by kernel_rfl) U3
  obtain ⟨a1, h1, _⟩ := leaf_int (n := 3) (u := 3) (o := 1) h (by kernel_rfl) U3
  obtain ⟨k, hk⟩ := leaf_bool (n := 3) (u := 4) (o := 2) h (by kernel_rfl) U4
  exact ⟨⟨a0, a1, k⟩, list3 (trod_len (by kernel_rfl) (by kernel_rfl) h) h0 h1 hk⟩
theorem elY (n : Nat) (c : List Value) (y : DataW H × List MemPlace) (h : DataW.trod enc Try.prog w base spare held n 37 c = some y) : ∃ x : SkyV, c = rowY x := by
  obtain ⟨a0, h0, _⟩ := leaf_int (n := 3) (u := 3) (o := 0) h (by kernel_rfl) U3
  obtain ⟨a1, h1, _⟩ := leaf_int (n := 3) (u := 3) (o := 1) h (by kernel_rfl) U3
  obtain ⟨a2, h2, _⟩ := leaf_int (n := 3) (u := 3) (o := 2) h (by kernel_rfl) U3
  obtain ⟨a3, h3, _⟩ := leaf_int (n := 3) (u := 3) (o := 3) h (by kernel_rfl) U3
  obtain ⟨a4, h4, _⟩ := leaf_int (n := 3) (u := 3) (o := 4) h (by kernel_rfl) U3
  obtain ⟨a5, h5, _⟩ := leaf_int (n := 3) (u := 3) (o := 5) h (by kernel_rfl) U3
  exact ⟨⟨(a0, a1), (a2, a3), a4, a5⟩, list6 (trod_len (by kernel_rfl) (by kernel_rfl) h) h0 h1 h2 h3 h4 h5⟩
theorem elI (n : Nat) (c : List Value) (y : DataW H × List MemPlace) (h : DataW.trod enc Try.prog w base spare held n 3 c = some y) : ∃ x : Int, c = rowI x := by
  obtain ⟨i, rfl, _, _⟩ := DataW.trod_int U3 h
  exact ⟨i, rfl⟩
set_option maxRecDepth 100000 in
theorem open_shelf {v : Value} {d : DataW H} {ps : List MemPlace} {r : Reach} {b0 : Nat} (hv : Value.okWide Try.prog w r b0 27 v) (h : DataW.Trod enc Try.prog w base spare held 27 v d ps) :
    ∃ (ys yn : Option Addr × Nat) (s : Shl), v = .agg (shlC ys yn s).toArray ∧ InSh w ys yn s := by
  obtain ⟨fuel, h⟩ := h
  obtain ⟨c, rfl, hsz⟩ := okWide_struct' (by kernel_rfl) hv
  have h : DataW.trod enc Try.prog w base spare held fuel 27 c.toList = some (d, ps) := h
  have hl := trod_len (sz := 5) (by kernel_rfl) (by kernel_rfl) h
  obtain ⟨lz, kz, yz, pz, tz⟩ := leaf_trod 3 h (22, 1) (List.elem_iff.1 (by kernel_rfl))
  obtain ⟨za, zn, zc, zl, rfl, hzn, _, _, hzs, _⟩ := open_rows (Q := fun _ => True) rowI 0 (sz := 1) (fun _ => rfl) (by decide) U22 (by kernel_rfl) (fun n c y h => by obtain ⟨x, hx⟩ := elI n c y h; exact ⟨x, hx, trivial⟩) tz
  obtain ⟨ln, kn, yn, pn, tn⟩ := leaf_trod 3 h (25, 4) (List.elem_iff.1 (by kernel_rfl))
  obtain ⟨na, nn, nc, nl, rfl, hnn, _, _, hns, _⟩ := open_rows (Q := fun _ => True) rowNo note0 (sz := 3) (fun _ => rfl) (by decide) U25 (by kernel_rfl) (fun n c y h => by obtain ⟨x, hx⟩ := elN n c y h; exact ⟨x, hx, trivial⟩) tn
  obtain ⟨e0, he0, _⟩ := leaf_int (n := 3) (u := 3) (o := 0) h (by kernel_rfl) U3
  obtain ⟨e2, he2, _⟩ := leaf_int (n := 3) (u := 3) (o := 2) h (by kernel_rfl) U3
  obtain ⟨e3, he3, _⟩ := leaf_int (n := 3) (u := 3) (o := 3) h (by kernel_rfl) U3
  subst hzn
  subst hnn
  refine ⟨(za, zc), (na, nc), ⟨e0, zl, (e2, e3), nl⟩, ?_, hzs, hns⟩
  obtain ⟨c⟩ := c
  have h1 := pre_at pz
  have h4 := pre_at pn
  simp only at h1 h4 he0 he2 he3 hl
  congr 1
  match c, hl with
  | [x0, x1, x2, x3, x4], _ =>
    simp at h1 h4 he0 he2 he3
    rw [h1, h4, he0, he2, he3]
set_option maxRecDepth 100000 in
theorem open_field {v : Value} {d : DataW H} {ps : List MemPlace} {r : Reach} {b0 : Nat} (hv : Value.okWide Try.prog w r b0 30 v) (h : DataW.Trod enc Try.prog w base spare held 30 v d ps) :
    ∃ (y : Option Addr × Nat) (f : Fld), v = .agg (fldC y f).toArray ∧ InF w y f := by
  obtain ⟨fuel, h⟩ := h
  obtain ⟨c, rfl, hsz⟩ := okWide_struct' (by kernel_rfl) hv
  have h : DataW.trod enc Try.prog w base spare held fuel 30 c.toList = some (d, ps) := h
  have hl := trod_len (sz := 10) (by kernel_rfl) (by kernel_rfl) h
  obtain ⟨ls, ks, ys, pq, ts⟩ := leaf_trod 3 h (28, 0) (List.elem_iff.1 (by kernel_rfl))
  obtain ⟨sa, sn, sc, l, rfl, hsn, _, _, hs, _⟩ := open_rows (Q := fun _ => True) rowY sky0 (sz := 6) (fun _ => rfl) (by decide) U28 (by kernel_rfl) (fun n c y h => by obtain ⟨x, hx⟩ := elY n c y h; exact ⟨x, hx, trivial⟩) ts
  obtain ⟨e1, he1, _⟩ := leaf_int (n := 3) (u := 3) (o := 1) h (by kernel_rfl) U3
  obtain ⟨e2, he2, _⟩ := leaf_int (n := 3) (u := 3) (o := 2) h (by kernel_rfl) U3
  obtain ⟨e3, he3, _⟩ := leaf_int (n := 3) (u := 3) (o := 3) h (by kernel_rfl) U3
  obtain ⟨e4, he4, _⟩ := leaf_int (n := 3) (u := 3) (o := 4) h (by kernel_rfl) U3
  obtain ⟨e5, he5, _⟩ := leaf_int (n := 3) (u := 3) (o := 5) h (by kernel_rfl) U3
  obtain ⟨e6, he6, _⟩ := leaf_int (n := 3) (u := 3) (o := 6) h (by kernel_rfl) U3
  obtain ⟨e7, he7, _⟩ := leaf_int (n := 3) (u := 3) (o := 7) h (by kernel_rfl) U3
  obtain ⟨e8, he8, _⟩ := leaf_int (n := 3) (u := 3) (o := 8) h (by kernel_rfl) U3
  obtain ⟨e9, he9, _⟩ := leaf_int (n := 3) (u := 3) (o := 9) h (by kernel_rfl) U3
  subst hsn
  refine ⟨(sa, sc), ⟨l, (e1, e2), (e3, e4), (e5, e6), e7, e8, e9⟩, ?_, hs⟩
  obtain ⟨c⟩ := c
  have h0 := pre_at pq
  simp only at h0 he1 he2 he3 he4 he5 he6 he7 he8 he9 hl
  congr 1
  match c, hl with
  | [x0, x1, x2, x3, x4, x5, x6, x7, x8, x9], _ =>
    simp at h0 he1 he2 he3 he4 he5 he6 he7 he8 he9
    rw [h0, he1, he2, he3, he4, he5, he6, he7, he8, he9]
end
abbrev shl0 : Value := .agg #[i64 0, .slice none 0 0, i64 0, i64 0, .slice none 0 0]
abbrev fld0 : Value := .agg #[.slice none 0 0, i64 0, i64 0, i64 0, i64 0, i64 0, i64 0, i64 0, i64 0, i64 0]
end Go.Proofs.Ytdpeifbejeflhaa
