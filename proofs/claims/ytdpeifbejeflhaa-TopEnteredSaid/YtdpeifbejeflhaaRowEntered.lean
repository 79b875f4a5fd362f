/-
  TopEntered: it returns true.
-/
import Derived.Test.YtdpeifbejeflhaaVy
import Derived.Test.YtdpeifbejeflhaaRowM
namespace Go.Proofs.Ytdpeifbejeflhaa
open Go.ChangeShapes Go.WideShapes Go.ChangeAt Go.RowKit ZW

set_option maxRecDepth 100000 in
theorem topEntered_lifted (os : Os) (started : os.Started) (H : Type) (enc : TypeId × Value → H) :
    ReturnsInHanded {} Try.checked os 3 .any (Rows.topEnteredSpec.pre6 enc Try.prog Try.f3 Rows.topEnteredRow.domain false) (Rows.topEnteredSpec.post enc Try.prog Try.f3 false true false false) := by
  refine returnsInHanded_of_change (C := Try.checked) Try.own started (by kernel_rfl) Try.func3
    (ChangeSpec.witness6 (enc := enc) (C := Try.checked) false ⟨#[], #[shl0, fld0], []⟩ 8 (by kernel_rfl) (by kernel_rfl) (by kernel_rfl) (by kernel_rfl)) ?_
  intro W base args ds gs before hval0 hW hcnd _
  have hval : ∀ (j : Nat) t v, Try.f3.params[j]? = some t → args[j]? = some v → Value.okWide Try.prog W .any base t v := hval0
  have hW' := hW
  obtain ⟨p, q, hA0, hV, rfl, hfz, hnd⟩ := hW
  have hA : DataW.TrodAll enc Try.prog W 0 (fun _ => true) true Try.f3.params.toList args.toList ds p := hA0
  rw [Try.params3] at hA hval
  have hA1 := hA
  obtain ⟨v0, r0, d0, e0, p0, q0, ha, rfl, rfl, h0, hA2⟩ := trodAll_cons hA1
  obtain ⟨v1, r1, d1, e1, p1, q1, rfl, rfl, rfl, h1, hA3⟩ := trodAll_cons hA2
  obtain ⟨rfl, rfl, rfl⟩ := trodAll_nil hA3
  obtain ⟨args⟩ := args
  have ha : args = _ := ha
  subst ha
  obtain ⟨rfl, rfl⟩ := trodVars_none hV
  obtain ⟨ys, yn, s, rfl, hms⟩ := open_shelf (hval 0 _ v0 rfl rfl) h0
  obtain ⟨y, f, rfl, hmf⟩ := open_field (hval 1 _ v1 rfl rfl) h1
  refine (entered_any ys yn s y f W hms hmf).mono fun e W' ⟨he, hE⟩ => ?_
  subst he
  exact ⟨_, rfl, post_true Try.laidOut U4 rfl (by kernel_rfl) rfl rfl hW' hE.below⟩

theorem topEntered_holds : Rows.TopEnteredSaid :=
  OpenClaim.holds_of_wide 3 Try.f3 rfl rfl rfl rfl rfl rfl rfl ⟨rfl, rfl, rfl, rfl, rfl⟩ rfl rfl rfl rfl rfl (by kernel_rfl) Try.func3 (by kernel_rfl)
    (of_decide_eq_true (by kernel_rfl)) (by unfold Func.isWrapper; first | (rw [if_pos (by decide +kernel)]; kernel_rfl) | (rw [if_neg (by decide +kernel)]; exact ⟨rfl, rfl⟩))
    (fun os started H enc _ => topEntered_lifted os started H enc)
end Go.Proofs.Ytdpeifbejeflhaa
