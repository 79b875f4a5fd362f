/-
  ScrewIdle: it returns true.
-/
import Derived.Test.YtoefcofplkbnkaaRg
import Derived.Test.YtoefcofplkbnkaaRowM
namespace Go.Proofs.Ytoefcofplkbnkaa
open Go.ChangeShapes Go.WideShapes Go.ChangeAt Go.RowKit ZW

set_option maxRecDepth 100000 in
theorem idleS_lifted (os : Os) (started : os.Started) (H : Type) (enc : TypeId × Value → H) :
    ReturnsInHanded {} Try.checked os 8 .any (Rows.screwIdleSpec.pre6 enc Try.prog Try.f8 Rows.screwIdleRow.domain false) (Rows.screwIdleSpec.post enc Try.prog Try.f8 false true false false) := by
  refine returnsInHanded_of_change (C := Try.checked) Try.own started (by kernel_rfl) Try.func8
    (ChangeSpec.witness6 (enc := enc) (C := Try.checked) false ⟨#[], #[meas0], []⟩ 8 (by kernel_rfl) (by kernel_rfl) (by kernel_rfl) (by kernel_rfl)) ?_
  intro W base args ds gs before hval0 hW hcnd _
  have hval : ∀ (j : Nat) t v, Try.f8.params[j]? = some t → args[j]? = some v → Value.okWide Try.prog W .any base t v := hval0
  have hW' := hW
  obtain ⟨p, q, hA0, hV, rfl, hfz, hnd⟩ := hW
  have hA : DataW.TrodAll enc Try.prog W 0 (fun _ => true) true Try.f8.params.toList args.toList ds p := hA0
  rw [Try.params8] at hA hval
  obtain ⟨v0, d0, rfl, rfl, h0⟩ := trodAll_one hA
  obtain ⟨rfl, rfl⟩ := trodVars_none hV
  obtain ⟨y, m, rfl, hm, hi⟩ := open_meas (hval 0 29 v0 rfl rfl) h0
  refine (idleS_any y m W hm).mono fun e W' ⟨he, hE⟩ => ?_
  subst he
  exact ⟨_, rfl, post_true Try.laidOut U4 rfl (by kernel_rfl) rfl rfl hW' hE.below⟩

theorem screwIdle_holds : Rows.ScrewIdleSaid :=
  OpenClaim.holds_of_wide 8 Try.f8 rfl rfl rfl rfl rfl rfl rfl ⟨rfl, rfl, rfl, rfl, rfl⟩ rfl rfl rfl rfl rfl (by kernel_rfl) Try.func8 (by kernel_rfl)
    (of_decide_eq_true (by kernel_rfl)) (by unfold Func.isWrapper; first | (rw [if_pos (by decide +kernel)]; kernel_rfl) | (rw [if_neg (by decide +kernel)]; exact ⟨rfl, rfl⟩))
    (fun os started H enc _ => idleS_lifted os started H enc)
end Go.Proofs.Ytoefcofplkbnkaa
