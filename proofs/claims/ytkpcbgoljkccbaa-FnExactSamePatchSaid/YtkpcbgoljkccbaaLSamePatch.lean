/- The program function SamePatch returns what the function of the reference returns, for all arguments. Conditions: those of the row alone. -/
import Derived.Test.YtkpcbgoljkccbaaRows
import Derived.Test.YtkpcbgoljkccbaaCPatch
import Derived.WalkKit
import Derived.ProofKit
import Derived.OpenShut
import Derived.ShutString
import Derived.ChangeOld
import Derived.Below
import Derived.SizedLaws
namespace Go.Proofs.Ytkpcbgoljkccbaa.fnExactSamePatch
open Go.ChangeShapes Go.WideShapes Go.ChangeAt Go.RowKit Go.Ab
open Go.ChangeMaps (open_string shut_string)
set_option linter.unusedVariables false
set_option linter.unusedSimpArgs false
theorem own : ownKnob Try.prog.godebug = none := by kernel_rfl
theorem laid : laidOutB Try.prog = true := by kernel_rfl
set_option maxRecDepth 10000
theorem law0 (p q : PatchD) (hp : okPatch p) (hq : okPatch q) : AC Try.prog 4 [patchV p, patchV q] (.bool true) := by
  refine AC.of_run mo Try.func4 Try.call4 ⟨rfl, Try.ntmps4, Try.results4, by kernel_rfl⟩ rfl ?_
  by_cases h1 : (costPatch p : Int) ≤ 1048576
  · have hp1 : p.hunks.length ≤ 1048576 := by unfold costPatch at h1; omega
    have e1 : szR (costPatch p) 1048576 = 1048576 - (costPatch p : Int) := by unfold szR; rw [if_pos h1]
    have z1 := szPatch_ac p 1048576 hp (by omega)
    rw [e1] at z1
    have z2 := szPatch_ac q (1048576 - (costPatch p : Int)) hq (by omega)
    by_cases h2 : (costPatch q : Int) ≤ 1048576 - (costPatch p : Int)
    · have hq1 : q.hunks.length ≤ 1048576 := by unfold costPatch at h2; omega
      have e2 : szR (costPatch q) (1048576 - (costPatch p : Int)) = 1048576 - (costPatch p : Int) - (costPatch q : Int) := by unfold szR; rw [if_pos h2]
      rw [e2] at z2
      have te := decide_eq_true (rfl : p = p)
      have te2 := decide_eq_true (rfl : q = q)
      have hs := sSamePatch_ac p q hp1
      have hi := iSamePatch_ac p q hp1
      have t1 := toPatch_ac p hp1
      have t2 := toPatch_ac q hq1
      have q1 := eqPatch_ac p p hp1
      have q2 := eqPatch_ac q q hq1
      rw [te] at q1
      rw [te2] at q2
      unfold patchV at z1 z2 hs hi t1 t2 q1 q2 ⊢
      repeat' (first | simp only [go_sem, ↓reduceIte, Nat.reduceEqDiff, Nat.reduceAdd, Nat.reduceMul, Nat.reduceSub, Nat.reduceLeDiff, Nat.reduceLT, Nat.reduceBEq, Nat.reduceBNe, Int.reduceLT, Int.reduceLE, Int.reduceEq, Int.reduceNeg, Int.reduceToNat, Int.toNat_natCast, Int.natCast_nonneg, List.length_append, List.length_map, List.length_replicate, Bool.and_eq_true, decide_eq_true_eq, List.length_take, List.length_drop, Int.reduceSub, Int.reduceAdd, Int.reduceMul, Int.sub_zero, Int.add_zero, Int.zero_add, reduceCtorEq, decide_true, decide_false, Bool.false_eq_true, List.reduceReplicate, *] | simp (disch := omega) only [wrap_i64, wrap_u8, Int.tdiv_eq_ediv_of_nonneg, Int.tmod_eq_emod_of_nonneg, if_pos] | (refine callP_0 (z1 ..) (rfl) (rfl) ?_) | (refine callP_0 (z2 ..) (rfl) (rfl) ?_) | (refine callP_0 (hs ..) (rfl) (rfl) ?_) | (refine callP_0 (hi ..) (rfl) (rfl) ?_) | (refine callP_0 (t1 ..) (rfl) (rfl) ?_) | (refine callP_0 (t2 ..) (rfl) (rfl) ?_) | (refine callP_0 (q1 ..) (rfl) (rfl) ?_) | (refine callP_0 (q2 ..) (rfl) (rfl) ?_) | (refine callX_ac (z1 ..) (rfl) (rfl) ?_) | (refine callX_ac (z2 ..) (rfl) (rfl) ?_) | (refine callX_ac (hs ..) (rfl) (rfl) ?_) | (refine callX_ac (hi ..) (rfl) (rfl) ?_) | (refine callX_ac (t1 ..) (rfl) (rfl) ?_) | (refine callX_ac (t2 ..) (rfl) (rfl) ?_) | (refine callX_ac (q1 ..) (rfl) (rfl) ?_) | (refine callX_ac (q2 ..) (rfl) (rfl) ?_) | refine callP_x ?_ | (refine ret_gen (by first | exact .inr rfl | exact .inl rfl) (rfl) ?_) | (refine guardP_split (fun _ => ?_) (fun _ => ?_)) | (refine condP_split (fun _ => ?_) (fun _ => ?_)) | (refine guardP_splitB (fun _ => ?_) (fun _ => ?_)) | (refine condP_splitB (fun _ => ?_) (fun _ => ?_)))
    · have e2 : szR (costPatch q) (1048576 - (costPatch p : Int)) = -1 := by unfold szR; rw [if_neg h2]
      rw [e2] at z2
      unfold patchV at z1 z2 ⊢
      repeat' (first | simp only [go_sem, ↓reduceIte, Nat.reduceEqDiff, Nat.reduceAdd, Nat.reduceMul, Nat.reduceSub, Nat.reduceLeDiff, Nat.reduceLT, Nat.reduceBEq, Nat.reduceBNe, Int.reduceLT, Int.reduceLE, Int.reduceEq, Int.reduceNeg, Int.reduceToNat, Int.toNat_natCast, Int.natCast_nonneg, List.length_append, List.length_map, List.length_replicate, Bool.and_eq_true, decide_eq_true_eq, List.length_take, List.length_drop, Int.reduceSub, Int.reduceAdd, Int.reduceMul, Int.sub_zero, Int.add_zero, Int.zero_add, reduceCtorEq, decide_true, decide_false, Bool.false_eq_true, List.reduceReplicate, *] | simp (disch := omega) only [wrap_i64, wrap_u8, Int.tdiv_eq_ediv_of_nonneg, Int.tmod_eq_emod_of_nonneg, if_pos] | (refine callP_0 (z1 ..) (rfl) (rfl) ?_) | (refine callP_0 (z2 ..) (rfl) (rfl) ?_) | (refine callX_ac (z1 ..) (rfl) (rfl) ?_) | (refine callX_ac (z2 ..) (rfl) (rfl) ?_) | refine callP_x ?_ | (refine ret_gen (by first | exact .inr rfl | exact .inl rfl) (rfl) ?_) | (refine guardP_split (fun _ => ?_) (fun _ => ?_)) | (refine condP_split (fun _ => ?_) (fun _ => ?_)) | (refine guardP_splitB (fun _ => ?_) (fun _ => ?_)) | (refine condP_splitB (fun _ => ?_) (fun _ => ?_)))
  · have e1 : szR (costPatch p) 1048576 = -1 := by unfold szR; rw [if_neg h1]
    have z1 := szPatch_ac p 1048576 hp (by omega)
    rw [e1] at z1
    unfold patchV at z1 ⊢
    repeat' (first | simp only [go_sem, ↓reduceIte, Nat.reduceEqDiff, Nat.reduceAdd, Nat.reduceMul, Nat.reduceSub, Nat.reduceLeDiff, Nat.reduceLT, Nat.reduceBEq, Nat.reduceBNe, Int.reduceLT, Int.reduceLE, Int.reduceEq, Int.reduceNeg, Int.reduceToNat, Int.toNat_natCast, Int.natCast_nonneg, List.length_append, List.length_map, List.length_replicate, Bool.and_eq_true, decide_eq_true_eq, List.length_take, List.length_drop, Int.reduceSub, Int.reduceAdd, Int.reduceMul, Int.sub_zero, Int.add_zero, Int.zero_add, reduceCtorEq, decide_true, decide_false, Bool.false_eq_true, List.reduceReplicate, *] | simp (disch := omega) only [wrap_i64, wrap_u8, Int.tdiv_eq_ediv_of_nonneg, Int.tmod_eq_emod_of_nonneg, if_pos] | (refine callP_0 (z1 ..) (rfl) (rfl) ?_) | (refine callX_ac (z1 ..) (rfl) (rfl) ?_) | refine callP_x ?_ | (refine ret_gen (by first | exact .inr rfl | exact .inl rfl) (rfl) ?_) | (refine guardP_split (fun _ => ?_) (fun _ => ?_)) | (refine condP_split (fun _ => ?_) (fun _ => ?_)) | (refine guardP_splitB (fun _ => ?_) (fun _ => ?_)) | (refine condP_splitB (fun _ => ?_) (fun _ => ?_)))
theorem law (xs : List AV) (h : DatA Try.prog [29, 29] xs) : AC Try.prog 4 xs (.bool true) := by
  simp only [datA_cons, datA_nil, datV_eq, tk29, datVK_struct] at h
  obtain ⟨x, r, rfl, ⟨cs, rfl, h1⟩, y, r2, rfl, ⟨ds, rfl, h2⟩, rfl⟩ := h
  obtain ⟨p, rfl, hp⟩ := dat_patch 4 h1
  obtain ⟨q, rfl, hq⟩ := dat_patch 4 h2
  exact law0 p q hp hq
set_option maxRecDepth 100000 in
theorem lifted (os : Os) (started : os.Started) (H : Type) (enc : TypeId × Value → H) :
    ReturnsInHanded {} Try.checked os 4 .any (Rows.fnExactSamePatchSpec.pre6 enc Try.prog Try.f4 Rows.fnExactSamePatchRow.domain false) (Rows.fnExactSamePatchSpec.post enc Try.prog Try.f4 false true false false) := by
  refine returnsInHanded_of_change_sized (C := Try.checked) own started (by kernel_rfl) Try.func4
    (ChangeSpec.witness6 (enc := enc) (C := Try.checked) false ⟨#[], #[.agg #[.int .i64 0, .int .i64 0, .int .i64 0, .int .i64 0, .slice none 0 0], .agg #[.int .i64 0, .int .i64 0, .int .i64 0, .int .i64 0, .slice none 0 0]], []⟩ 8 (by kernel_rfl) (by kernel_rfl) (by kernel_rfl) (by kernel_rfl)) ?_
  intro W base args ds gs before hval0 hW hcnd hsz0 _
  have hval : ∀ (j : Nat) t v, Try.f4.params[j]? = some t → args[j]? = some v → Value.okWide Try.prog W .any base t v := hval0
  have hW' := hW
  obtain ⟨p, q, hA0, hV, rfl, hfz, hnd⟩ := hW
  have hA : DataW.TrodAll enc Try.prog W 0 (fun _ => true) true Try.f4.params.toList args.toList ds p := hA0
  rw [Try.params4] at hA hval
  obtain ⟨rfl, rfl⟩ := trodVars_none hV
  have hl : ds.length = 2 := trodAll_len hA
  clear hA0 hval0 hsz0
  refine (law_calls laid (by kernel_rfl) (by kernel_rfl) hA (fun j t v h h' => hval j t v (by simpa using h) h') law).mono fun e W' ⟨he, bel, hB⟩ => ?_
  subst he
  match ds, hl with
  | [d0, d1], _ => exact ⟨_, rfl, [d0, d1], [], _, [], _, [], hW', trodAll_mk1 (shut_bool Try.underlying4 _), hB, rfl, bel.frame _, fun h => by cases h⟩
theorem over : Rows.fnExactSamePatchRow.holds Try.pinned (OpenSpec.ofChange Rows.fnExactSamePatchSpec) :=
  OpenClaim.holds_of_wide 4 Try.f4 rfl rfl rfl rfl rfl rfl rfl ⟨rfl, rfl, rfl, rfl, rfl⟩ rfl rfl rfl rfl rfl (by kernel_rfl) Try.func4 (by kernel_rfl)
    (of_decide_eq_true (by kernel_rfl)) (by unfold Func.isWrapper; first | (rw [if_pos (by decide +kernel)]; kernel_rfl) | (rw [if_neg (by decide +kernel)]; exact ⟨rfl, rfl⟩))
    (fun os started H enc _ => lifted os started H enc)
theorem proved : Rows.FnExactSamePatchSaid := over
end Go.Proofs.Ytkpcbgoljkccbaa.fnExactSamePatch
namespace Go.Proofs.Ytkpcbgoljkccbaa
/-- The row, under a short name, for the claim. -/
theorem fnExactSamePatch_holds : Rows.FnExactSamePatchSaid := fnExactSamePatch.proved
end Go.Proofs.Ytkpcbgoljkccbaa
#print axioms Go.Proofs.Ytkpcbgoljkccbaa.fnExactSamePatch_holds
