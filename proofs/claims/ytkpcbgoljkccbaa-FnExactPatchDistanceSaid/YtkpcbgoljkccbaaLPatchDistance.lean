/- The program function PatchDistance returns what the function of the reference returns, for all arguments. Conditions: those of the row alone. -/
import Derived.Test.YtkpcbgoljkccbaaRows
import Derived.Test.YtkpcbgoljkccbaaCVPatch
import Derived.WalkKit
import Derived.ProofKit
import Derived.OpenShut
import Derived.ShutString
import Derived.ChangeOld
import Derived.Below
import Derived.SizedLaws
namespace Go.Proofs.Ytkpcbgoljkccbaa.fnExactPatchDistance
open Go.ChangeShapes Go.WideShapes Go.ChangeAt Go.RowKit Go.Ab
open Go.ChangeMaps (open_string shut_string)
set_option linter.unusedVariables false
set_option linter.unusedSimpArgs false
theorem own : ownKnob Try.prog.godebug = none := by kernel_rfl
theorem laid : laidOutB Try.prog = true := by kernel_rfl
set_option maxRecDepth 10000
theorem law0 (p : PatchD) (hp : okPatch p) : AC Try.prog 9 [patchV p] (.bool true) := by
  refine AC.of_run mo Try.func9 Try.call9 ⟨rfl, Try.ntmps9, Try.results9, by kernel_rfl⟩ rfl ?_
  by_cases h1 : (costPatch p : Int) ≤ 1048576
  · obtain ⟨hp1, hp2⟩ := patch_small h1
    have e1 : szR (costPatch p) 1048576 = 1048576 - (costPatch p : Int) := by unfold szR; rw [if_pos h1]
    have z1 := szPatch_ac p 1048576 hp (by omega)
    rw [e1] at z1
    have te := decide_eq_true (rfl : p = p)
    have hs := sPatchDistance_ac p hp2
    have hi := iPatchDistance_ac p hp2
    have t1 := toPatch_ac p hp1
    have q1 := eqPatch_ac p p hp1
    rw [te] at q1
    unfold patchV at z1 hs hi t1 q1 ⊢
    repeat' (first | simp only [go_sem, ↓reduceIte, Nat.reduceEqDiff, Nat.reduceAdd, Nat.reduceMul, Nat.reduceSub, Nat.reduceLeDiff, Nat.reduceLT, Nat.reduceBEq, Nat.reduceBNe, Int.reduceLT, Int.reduceLE, Int.reduceEq, Int.reduceNeg, Int.reduceToNat, Int.toNat_natCast, Int.natCast_nonneg, List.length_append, List.length_map, List.length_replicate, Bool.and_eq_true, decide_eq_true_eq, List.length_take, List.length_drop, Int.reduceSub, Int.reduceAdd, Int.reduceMul, Int.sub_zero, Int.add_zero, Int.zero_add, reduceCtorEq, decide_true, decide_false, Bool.false_eq_true, List.reduceReplicate, *] | simp (disch := omega) only [wrap_i64, wrap_u8, Int.tdiv_eq_ediv_of_nonneg, Int.tmod_eq_emod_of_nonneg, if_pos] | (refine callP_0 (z1 ..) (rfl) (rfl) ?_) | (refine callP_0 (hs ..) (rfl) (rfl) ?_) | (refine callP_0 (hi ..) (rfl) (rfl) ?_) | (refine callP_0 (t1 ..) (rfl) (rfl) ?_) | (refine callP_0 (q1 ..) (rfl) (rfl) ?_) | (refine callX_ac (z1 ..) (rfl) (rfl) ?_) | (refine callX_ac (hs ..) (rfl) (rfl) ?_) | (refine callX_ac (hi ..) (rfl) (rfl) ?_) | (refine callX_ac (t1 ..) (rfl) (rfl) ?_) | (refine callX_ac (q1 ..) (rfl) (rfl) ?_) | refine callP_x ?_ | (refine ret_gen (by first | exact .inr rfl | exact .inl rfl) (rfl) ?_) | (refine guardP_split (fun _ => ?_) (fun _ => ?_)) | (refine condP_split (fun _ => ?_) (fun _ => ?_)) | (refine guardP_splitB (fun _ => ?_) (fun _ => ?_)) | (refine condP_splitB (fun _ => ?_) (fun _ => ?_)))
  · have e1 : szR (costPatch p) 1048576 = -1 := by unfold szR; rw [if_neg h1]
    have z1 := szPatch_ac p 1048576 hp (by omega)
    rw [e1] at z1
    unfold patchV at z1 ⊢
    repeat' (first | simp only [go_sem, ↓reduceIte, Nat.reduceEqDiff, Nat.reduceAdd, Nat.reduceMul, Nat.reduceSub, Nat.reduceLeDiff, Nat.reduceLT, Nat.reduceBEq, Nat.reduceBNe, Int.reduceLT, Int.reduceLE, Int.reduceEq, Int.reduceNeg, Int.reduceToNat, Int.toNat_natCast, Int.natCast_nonneg, List.length_append, List.length_map, List.length_replicate, Bool.and_eq_true, decide_eq_true_eq, List.length_take, List.length_drop, Int.reduceSub, Int.reduceAdd, Int.reduceMul, Int.sub_zero, Int.add_zero, Int.zero_add, reduceCtorEq, decide_true, decide_false, Bool.false_eq_true, List.reduceReplicate, *] | simp (disch := omega) only [wrap_i64, wrap_u8, Int.tdiv_eq_ediv_of_nonneg, Int.tmod_eq_emod_of_nonneg, if_pos] | (refine callP_0 (z1 ..) (rfl) (rfl) ?_) | (refine callX_ac (z1 ..) (rfl) (rfl) ?_) | refine callP_x ?_ | (refine ret_gen (by first | exact .inr rfl | exact .inl rfl) (rfl) ?_) | (refine guardP_split (fun _ => ?_) (fun _ => ?_)) | (refine condP_split (fun _ => ?_) (fun _ => ?_)) | (refine guardP_splitB (fun _ => ?_) (fun _ => ?_)) | (refine condP_splitB (fun _ => ?_) (fun _ => ?_)))
theorem law (xs : List AV) (h : DatA Try.prog [29] xs) : AC Try.prog 9 xs (.bool true) := by
  simp only [datA_cons, datA_nil, datV_eq, tk29, datVK_struct] at h
  obtain ⟨x, r, rfl, ⟨cs, rfl, h1⟩, rfl⟩ := h
  obtain ⟨p, rfl, hp⟩ := dat_patch 4 h1
  exact law0 p hp
set_option maxRecDepth 100000 in
theorem lifted (os : Os) (started : os.Started) (H : Type) (enc : TypeId × Value → H) :
    ReturnsInHanded {} Try.checked os 9 .any (Rows.fnExactPatchDistanceSpec.pre6 enc Try.prog Try.f9 Rows.fnExactPatchDistanceRow.domain false) (Rows.fnExactPatchDistanceSpec.post enc Try.prog Try.f9 false true false false) := by
  refine returnsInHanded_of_change_sized (C := Try.checked) own started (by kernel_rfl) Try.func9
    (ChangeSpec.witness6 (enc := enc) (C := Try.checked) false ⟨#[], #[.agg #[.int .i64 0, .int .i64 0, .int .i64 0, .int .i64 0, .slice none 0 0]], []⟩ 8 (by kernel_rfl) (by kernel_rfl) (by kernel_rfl) (by kernel_rfl)) ?_
  intro W base args ds gs before hval0 hW hcnd hsz0 _
  have hval : ∀ (j : Nat) t v, Try.f9.params[j]? = some t → args[j]? = some v → Value.okWide Try.prog W .any base t v := hval0
  have hW' := hW
  obtain ⟨p, q, hA0, hV, rfl, hfz, hnd⟩ := hW
  have hA : DataW.TrodAll enc Try.prog W 0 (fun _ => true) true Try.f9.params.toList args.toList ds p := hA0
  rw [Try.params9] at hA hval
  obtain ⟨rfl, rfl⟩ := trodVars_none hV
  have hl : ds.length = 1 := trodAll_len hA
  clear hA0 hval0 hsz0
  refine (law_calls laid (by kernel_rfl) (by kernel_rfl) hA (fun j t v h h' => hval j t v (by simpa using h) h') law).mono fun e W' ⟨he, bel, hB⟩ => ?_
  subst he
  match ds, hl with
  | [d0], _ => exact ⟨_, rfl, [d0], [], _, [], _, [], hW', trodAll_mk1 (shut_bool Try.underlying4 _), hB, rfl, bel.frame _, fun h => by cases h⟩
theorem over : Rows.fnExactPatchDistanceRow.holds Try.pinned (OpenSpec.ofChange Rows.fnExactPatchDistanceSpec) :=
  OpenClaim.holds_of_wide 9 Try.f9 rfl rfl rfl rfl rfl rfl rfl ⟨rfl, rfl, rfl, rfl, rfl⟩ rfl rfl rfl rfl rfl (by kernel_rfl) Try.func9 (by kernel_rfl)
    (of_decide_eq_true (by kernel_rfl)) (by unfold Func.isWrapper; first | (rw [if_pos (by decide +kernel)]; kernel_rfl) | (rw [if_neg (by decide +kernel)]; exact ⟨rfl, rfl⟩))
    (fun os started H enc _ => lifted os started H enc)
theorem proved : Rows.FnExactPatchDistanceSaid := over
end Go.Proofs.Ytkpcbgoljkccbaa.fnExactPatchDistance
namespace Go.Proofs.Ytkpcbgoljkccbaa
/-- The row, under a short name, for the claim. -/
theorem fnExactPatchDistance_holds : Rows.FnExactPatchDistanceSaid := fnExactPatchDistance.proved
end Go.Proofs.Ytkpcbgoljkccbaa
#print axioms Go.Proofs.Ytkpcbgoljkccbaa.fnExactPatchDistance_holds
