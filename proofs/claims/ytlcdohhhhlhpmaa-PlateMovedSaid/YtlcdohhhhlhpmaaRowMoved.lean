/-
  PlateMoved: it returns true.
-/
import Derived.Test.YtlcdohhhhlhpmaaFb
import Derived.Test.YtlcdohhhhlhpmaaRw
namespace Go.Proofs.Ytlcdohhhhlhpmaa
open Go.ChangeShapes Go.WideShapes Go.ChangeAt Go.RowKit ZW

set_option maxRecDepth 100000 in
theorem plateMoved_lifted (os : Os) (started : os.Started) (H : Type) (enc : TypeId × Value → H) :
    ReturnsInHanded {} Try.checked os 10 .any (Rows.plateMovedSpec.pre6 enc Try.prog Try.f10 Rows.plateMovedRow.domain false) (Rows.plateMovedSpec.post enc Try.prog Try.f10 false true false false) := by
  refine returnsInHanded_of_change (C := Try.checked) Try.own started (by kernel_rfl) Try.func10
    (ChangeSpec.witness6 (enc := enc) (C := Try.checked) false ⟨#[], #[plt0, i64 0, i64 0, i64 0, i64 0, .int .i16 0, .int .i16 0], []⟩ 8 (by kernel_rfl) (by kernel_rfl) (by kernel_rfl) (by kernel_rfl)) ?_
  intro W base args ds gs before hval0 hW hcnd _
  have hval : ∀ (j : Nat) t v, Try.f10.params[j]? = some t → args[j]? = some v → Value.okWide Try.prog W .any base t v := hval0
  have hW' := hW
  obtain ⟨p, q, hA0, hV, rfl, hfz, hnd⟩ := hW
  have hA : DataW.TrodAll enc Try.prog W 0 (fun _ => true) true Try.f10.params.toList args.toList ds p := hA0
  rw [Try.params10] at hA hval
  have hA1 := hA
  obtain ⟨v0, r0, d0, e0, p0, q0, ha, rfl, rfl, h0, hA2⟩ := trodAll_cons hA1
  obtain ⟨v1, r1, d1, e1, p1, q1, rfl, rfl, rfl, h1, hA3⟩ := trodAll_cons hA2
  obtain ⟨v2, r2, d2, e2, p2, q2, rfl, rfl, rfl, h2, hA4⟩ := trodAll_cons hA3
  obtain ⟨v3, r3, d3, e3, p3, q3, rfl, rfl, rfl, h3, hA5⟩ := trodAll_cons hA4
  obtain ⟨v4, r4, d4, e4, p4, q4, rfl, rfl, rfl, h4, hA6⟩ := trodAll_cons hA5
  obtain ⟨v5, r5, d5, e5, p5, q5, rfl, rfl, rfl, h5, hA7⟩ := trodAll_cons hA6
  obtain ⟨v6, r6, d6, e6, p6, q6, rfl, rfl, rfl, h6, hA8⟩ := trodAll_cons hA7
  obtain ⟨rfl, rfl, rfl⟩ := trodAll_nil hA8
  obtain ⟨args⟩ := args
  have ha : args = _ := ha
  subst ha
  obtain ⟨rfl, rfl⟩ := trodVars_none hV
  obtain ⟨y, X, rfl, hm, hcap⟩ := open_plate (hval 0 _ v0 rfl rfl) h0
  obtain ⟨a1, rfl, _, _, w1⟩ := open_int U3 (hval 1 _ v1 rfl rfl) h1
  obtain ⟨a2, rfl, _, _, w2⟩ := open_int U3 (hval 2 _ v2 rfl rfl) h2
  obtain ⟨a3, rfl, _, _, w3⟩ := open_int U3 (hval 3 _ v3 rfl rfl) h3
  obtain ⟨a4, rfl, _, _, w4⟩ := open_int U3 (hval 4 _ v4 rfl rfl) h4
  obtain ⟨a5, rfl, _, _, w5⟩ := open_int U67 (hval 5 _ v5 rfl rfl) h5
  have hb5 := wfi16 w5
  obtain ⟨a6, rfl, _, _, w6⟩ := open_int U67 (hval 6 _ v6 rfl rfl) h6
  have hb6 := wfi16 w6
  refine (pmoved_any y X a1 a2 a3 a4 a5 a6 W hm hb5 hb6).mono fun e W' ⟨he, hE⟩ => ?_
  subst he
  exact ⟨_, rfl, post_true Try.laidOut U4 rfl (by kernel_rfl) rfl rfl hW' hE.below⟩

theorem plateMoved_holds : Rows.PlateMovedSaid :=
  OpenClaim.holds_of_wide 10 Try.f10 rfl rfl rfl rfl rfl rfl rfl ⟨rfl, rfl, rfl, rfl, rfl⟩ rfl rfl rfl rfl rfl (by kernel_rfl) Try.func10 (by kernel_rfl)
    (of_decide_eq_true (by kernel_rfl)) (by unfold Func.isWrapper; first | (rw [if_pos (by decide +kernel)]; kernel_rfl) | (rw [if_neg (by decide +kernel)]; exact ⟨rfl, rfl⟩))
    (fun os started H enc _ => plateMoved_lifted os started H enc)
end Go.Proofs.Ytlcdohhhhlhpmaa
