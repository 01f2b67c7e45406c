/- The program function ValidShape returns what the function of the reference returns, for all arguments. Conditions: those of the row alone. -/
import Derived.Test.YtolpmgojeipekaaRows
import Derived.Test.YtolpmgojeipekaaCShape
import Derived.WalkKit
import Derived.ProofKit
import Derived.OpenShut
import Derived.ShutString
import Derived.ChangeOld
import Derived.Below
import Derived.SizedLaws
namespace Go.Proofs.Ytolpmgojeipekaa.fnExactValidShape
open Go.ChangeShapes Go.WideShapes Go.ChangeAt Go.RowKit Go.Ab
open Go.ChangeMaps (open_string shut_string)
set_option linter.unusedVariables false
theorem own : ownKnob Try.prog.godebug = none := by kernel_rfl
theorem laid : laidOutB Try.prog = true := by kernel_rfl
theorem law (xs : List AV) (h : DatA Try.prog [23] xs) : AC Try.prog 3 xs (.bool true) := by
  simp only [go_sem] at h
  obtain ⟨x, r, rfl, ⟨cs, rfl, c0, r0, rfl, ⟨a, rfl, _⟩, c1, r1, rfl, ⟨b, rfl, _⟩, c2, r2, rfl, ⟨c, rfl, _⟩, c3, r3, rfl, ⟨d, rfl, _⟩, c4, r4, rfl, ⟨e, rfl, _⟩, c5, r5, rfl, ⟨f, rfl, _⟩, rfl⟩, rfl⟩ := h
  exact lawShape_ac a b c d e f
set_option maxRecDepth 100000 in
theorem lifted (os : Os) (started : os.Started) (H : Type) (enc : TypeId × Value → H) :
    ReturnsInHanded {} Try.checked os 3 .any (Rows.fnExactValidShapeSpec.pre6 enc Try.prog Try.f3 Rows.fnExactValidShapeRow.domain false) (Rows.fnExactValidShapeSpec.post enc Try.prog Try.f3 false true false false) := by
  refine returnsInHanded_of_change_sized (C := Try.checked) own started (by kernel_rfl) Try.func3
    (ChangeSpec.witness6 (enc := enc) (C := Try.checked) false ⟨#[], #[.agg #[.int .i64 0, .int .i64 0, .int .i64 0, .int .i64 0, .int .i64 0, .int .i64 0]], []⟩ 8 (by kernel_rfl) (by kernel_rfl) (by kernel_rfl) (by kernel_rfl)) ?_
  intro W base args ds gs before hval0 hW hcnd hsz0 _
  have hval : ∀ (j : Nat) t v, Try.f3.params[j]? = some t → args[j]? = some v → Value.okWide Try.prog W .any base t v := hval0
  have hW' := hW
  obtain ⟨p, q, hA0, hV, rfl, hfz, hnd⟩ := hW
  have hA : DataW.TrodAll enc Try.prog W 0 (fun _ => true) true Try.f3.params.toList args.toList ds p := hA0
  rw [Try.params3] at hA hval
  obtain ⟨rfl, rfl⟩ := trodVars_none hV
  have hl : ds.length = 1 := trodAll_len hA
  clear hA0 hval0 hsz0
  refine (law_calls laid (by kernel_rfl) (by kernel_rfl) hA (fun j t v h h' => hval j t v (by simpa using h) h') law).mono fun e W' ⟨he, bel, hB⟩ => ?_
  subst he
  match ds, hl with
  | [d], _ => exact ⟨_, rfl, [d], [], _, [], _, [], hW', trodAll_mk1 (shut_bool Try.underlying4 _), hB, rfl, bel.frame _, fun h => by cases h⟩
theorem over : Rows.fnExactValidShapeRow.holds Try.pinned (OpenSpec.ofChange Rows.fnExactValidShapeSpec) :=
  OpenClaim.holds_of_wide 3 Try.f3 rfl rfl rfl rfl rfl rfl rfl ⟨rfl, rfl, rfl, rfl, rfl⟩ rfl rfl rfl rfl rfl (by kernel_rfl) Try.func3 (by kernel_rfl)
    (of_decide_eq_true (by kernel_rfl)) (by unfold Func.isWrapper; first | (rw [if_pos (by decide +kernel)]; kernel_rfl) | (rw [if_neg (by decide +kernel)]; exact ⟨rfl, rfl⟩))
    (fun os started H enc _ => lifted os started H enc)
theorem proved : Rows.FnExactValidShapeSaid := over
end Go.Proofs.Ytolpmgojeipekaa.fnExactValidShape
namespace Go.Proofs.Ytolpmgojeipekaa
/-- The row, under a short name, for the claim. -/
theorem fnExactValidShape_holds : Rows.FnExactValidShapeSaid := fnExactValidShape.proved
end Go.Proofs.Ytolpmgojeipekaa
#print axioms Go.Proofs.Ytolpmgojeipekaa.fnExactValidShape_holds
