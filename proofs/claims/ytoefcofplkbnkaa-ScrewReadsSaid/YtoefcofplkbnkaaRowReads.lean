/-
  ScrewReads: it returns true.
-/
import Derived.Test.YtoefcofplkbnkaaRd
import Derived.Test.YtoefcofplkbnkaaRowM
namespace Go.Proofs.Ytoefcofplkbnkaa
open Go.ChangeShapes Go.WideShapes Go.ChangeAt Go.RowKit ZW

set_option maxRecDepth 100000 in
theorem reads_lifted (os : Os) (started : os.Started) (H : Type) (enc : TypeId × Value → H) :
    ReturnsInHanded {} Try.checked os 3 .any (Rows.screwReadsSpec.pre6 enc Try.prog Try.f3 Rows.screwReadsRow.domain false) (Rows.screwReadsSpec.post enc Try.prog Try.f3 false true false false) := by
  refine returnsInHanded_of_change (C := Try.checked) Try.own started (by kernel_rfl) Try.func3
    (ChangeSpec.witness6 (enc := enc) (C := Try.checked) false ⟨#[], #[meas0, i64 0, i64 0, i64 0], []⟩ 8 (by kernel_rfl) (by kernel_rfl) (by kernel_rfl) (by kernel_rfl)) ?_
  intro W base args ds gs before hval0 hW hcnd _
  have hval : ∀ (j : Nat) t v, Try.f3.params[j]? = some t → args[j]? = some v → Value.okWide Try.prog W .any base t v := hval0
  have hW' := hW
  obtain ⟨p, q, hA0, hV, rfl, hfz, hnd⟩ := hW
  have hA : DataW.TrodAll enc Try.prog W 0 (fun _ => true) true Try.f3.params.toList args.toList ds p := hA0
  rw [Try.params3] at hA hval
  obtain ⟨v0, v1, v2, v3, d0, d1, d2, d3, p0, p1, p2, p3, rfl, rfl, rfl, h0, h1, h2, h3⟩ := trodAll_four hA
  obtain ⟨rfl, rfl⟩ := trodVars_none hV
  obtain ⟨y, m, rfl, hm, hi⟩ := open_meas (hval 0 29 v0 rfl rfl) h0
  obtain ⟨n, rfl, _, _, wn⟩ := open_int U3 (hval 1 3 v1 rfl rfl) h1
  obtain ⟨a, rfl, _, _, wa⟩ := open_int U3 (hval 2 3 v2 rfl rfl) h2
  obtain ⟨b, rfl, _, _, wb⟩ := open_int U3 (hval 3 3 v3 rfl rfl) h3
  refine (reads_any y m n a b W hm).mono fun e W' ⟨he, hE⟩ => ?_
  subst he
  exact ⟨_, rfl, post_true Try.laidOut U4 rfl (by kernel_rfl) rfl rfl hW' hE.below⟩

theorem screwReads_holds : Rows.ScrewReadsSaid :=
  OpenClaim.holds_of_wide 3 Try.f3 rfl rfl rfl rfl rfl rfl rfl ⟨rfl, rfl, rfl, rfl, rfl⟩ rfl rfl rfl rfl rfl (by kernel_rfl) Try.func3 (by kernel_rfl)
    (of_decide_eq_true (by kernel_rfl)) (by unfold Func.isWrapper; first | (rw [if_pos (by decide +kernel)]; kernel_rfl) | (rw [if_neg (by decide +kernel)]; exact ⟨rfl, rfl⟩))
    (fun os started H enc _ => reads_lifted os started H enc)
end Go.Proofs.Ytoefcofplkbnkaa
