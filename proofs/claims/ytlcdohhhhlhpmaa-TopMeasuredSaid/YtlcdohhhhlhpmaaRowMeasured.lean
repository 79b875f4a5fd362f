/-
  TopMeasured: it returns true.
-/
import Derived.Test.YtlcdohhhhlhpmaaMc
import Derived.Test.YtlcdohhhhlhpmaaRw
namespace Go.Proofs.Ytlcdohhhhlhpmaa
open Go.ChangeShapes Go.WideShapes Go.ChangeAt Go.RowKit ZW

set_option maxRecDepth 100000 in
theorem topMeasured_lifted (os : Os) (started : os.Started) (H : Type) (enc : TypeId × Value → H) :
    ReturnsInHanded {} Try.checked os 12 .any (Rows.topMeasuredSpec.pre6 enc Try.prog Try.f12 Rows.topMeasuredRow.domain false) (Rows.topMeasuredSpec.post enc Try.prog Try.f12 false true false false) := by
  refine returnsInHanded_of_change (C := Try.checked) Try.own started (by kernel_rfl) Try.func12
    (ChangeSpec.witness6 (enc := enc) (C := Try.checked) false ⟨#[], #[.slice none 0 0], []⟩ 8 (by kernel_rfl) (by kernel_rfl) (by kernel_rfl) (by kernel_rfl)) ?_
  intro W base args ds gs before hval0 hW hcnd _
  have hval : ∀ (j : Nat) t v, Try.f12.params[j]? = some t → args[j]? = some v → Value.okWide Try.prog W .any base t v := hval0
  have hW' := hW
  obtain ⟨p, q, hA0, hV, rfl, hfz, hnd⟩ := hW
  have hA : DataW.TrodAll enc Try.prog W 0 (fun _ => true) true Try.f12.params.toList args.toList ds p := hA0
  rw [Try.params12] at hA hval
  have hA1 := hA
  obtain ⟨v0, r0, d0, e0, p0, q0, ha, rfl, rfl, h0, hA2⟩ := trodAll_cons hA1
  obtain ⟨rfl, rfl, rfl⟩ := trodAll_nil hA2
  obtain ⟨args⟩ := args
  have ha : args = _ := ha
  subst ha
  obtain ⟨rfl, rfl⟩ := trodVars_none hV
  obtain ⟨sa0, sc0, l0, rfl, hl0, hq0⟩ := open_l16 (hval 0 _ v0 rfl rfl) h0
  refine (meas_any sa0 sc0 l0 W hl0 hq0).mono fun e W' ⟨he, hE⟩ => ?_
  subst he
  exact ⟨_, rfl, post_true Try.laidOut U4 rfl (by kernel_rfl) rfl rfl hW' hE.below⟩

theorem topMeasured_holds : Rows.TopMeasuredSaid :=
  OpenClaim.holds_of_wide 12 Try.f12 rfl rfl rfl rfl rfl rfl rfl ⟨rfl, rfl, rfl, rfl, rfl⟩ rfl rfl rfl rfl rfl (by kernel_rfl) Try.func12 (by kernel_rfl)
    (of_decide_eq_true (by kernel_rfl)) (by unfold Func.isWrapper; first | (rw [if_pos (by decide +kernel)]; kernel_rfl) | (rw [if_neg (by decide +kernel)]; exact ⟨rfl, rfl⟩))
    (fun os started H enc _ => topMeasured_lifted os started H enc)
end Go.Proofs.Ytlcdohhhhlhpmaa
