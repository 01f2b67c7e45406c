/- The program function ApplyPatch returns what the function of the reference returns, for all arguments. Conditions: those of the row alone. -/
import Derived.Test.YthdbfnjekbnbkaaRows
import Derived.Test.YthdbfnjekbnbkaaCApply
import Derived.WalkKit
import Derived.ProofKit
import Derived.OpenShut
import Derived.ShutString
import Derived.ChangeOld
import Derived.Below
import Derived.SizedLaws
namespace Go.Proofs.Ythdbfnjekbnbkaa.fnExactApplyPatch
open Go.ChangeShapes Go.WideShapes Go.ChangeAt Go.RowKit Go.Ab
open Go.ChangeMaps (open_string shut_string)
set_option linter.unusedVariables false
set_option linter.unusedSimpArgs false
theorem own : ownKnob Try.prog.godebug = none := by kernel_rfl
theorem laid : laidOutB Try.prog = true := by kernel_rfl
set_option maxRecDepth 10000
set_option maxHeartbeats 4000000
theorem law0 (p : PatchD) (b : List UInt8) (hp : okPatch p) (hb : b.length ≤ maxLen) : AC Try.prog 3 [patchV p, .str b] (.bool true) := by
  refine AC.of_run mo Try.func3 Try.call3 ⟨rfl, Try.ntmps3, Try.results3, by kernel_rfl⟩ rfl ?_
  by_cases hbl : b.length ≤ 1048576
  · by_cases h1 : (costPatch p : Int) ≤ 1048576
    · obtain ⟨hp1, hp2⟩ := patch_small h1
      have e1 : szR (costPatch p) 1048576 = 1048576 - (costPatch p : Int) := by unfold szR; rw [if_pos h1]
      have z1 := szPatch_ac p 1048576 hp (by omega)
      rw [e1] at z1
      have te := decide_eq_true (rfl : p = p)
      have hs := sApplyPatch_ac p b hbl hp2
      have hi := iApplyPatch_ac p b hbl hp2
      obtain ⟨x, y, hxy⟩ := appR_two p b
      rw [hxy] at hs hi
      have t1 := toPatch_ac p hp1
      have q1 := eqPatch_ac p p hp1
      rw [te] at q1
      unfold patchV at z1 hs hi t1 q1 ⊢
      repeat' (first | simp only [go_sem, ↓reduceIte, Nat.reduceEqDiff, Nat.reduceAdd, Nat.reduceMul, Nat.reduceSub, Nat.reduceLeDiff, Nat.reduceLT, Nat.reduceBEq, Nat.reduceBNe, Int.reduceLT, Int.reduceLE, Int.reduceEq, Int.reduceNeg, Int.reduceToNat, Int.toNat_natCast, Int.natCast_nonneg, List.length_append, List.length_map, List.length_replicate, Bool.and_eq_true, decide_eq_true_eq, List.length_take, List.length_drop, Int.reduceSub, Int.reduceAdd, Int.reduceMul, Int.sub_zero, Int.add_zero, Int.zero_add, reduceCtorEq, decide_true, decide_false, Bool.false_eq_true, List.reduceReplicate, *] | simp (disch := omega) only [wrap_i64, wrap_u8, Int.tdiv_eq_ediv_of_nonneg, Int.tmod_eq_emod_of_nonneg, if_pos] | (refine callP_0 (z1 ..) (rfl) (rfl) ?_) | (refine callP_0 (hs ..) (rfl) (rfl) ?_) | (refine callP_0 (hi ..) (rfl) (rfl) ?_) | (refine callP_0 (t1 ..) (rfl) (rfl) ?_) | (refine callP_0 (q1 ..) (rfl) (rfl) ?_) | (refine callX_ac (z1 ..) (rfl) (rfl) ?_) | (refine callX_ac (hs ..) (rfl) (rfl) ?_) | (refine callX_ac (hi ..) (rfl) (rfl) ?_) | (refine callX_ac (t1 ..) (rfl) (rfl) ?_) | (refine callX_ac (q1 ..) (rfl) (rfl) ?_) | refine callP_x ?_ | (refine ret_gen (by first | exact .inr rfl | exact .inl rfl) (rfl) ?_) | (refine guardP_split (fun _ => ?_) (fun _ => ?_)) | (refine condP_split (fun _ => ?_) (fun _ => ?_)) | (refine guardP_splitB (fun _ => ?_) (fun _ => ?_)) | (refine condP_splitB (fun _ => ?_) (fun _ => ?_)))
      all_goals omega
    · have e1 : szR (costPatch p) 1048576 = -1 := by unfold szR; rw [if_neg h1]
      have z1 := szPatch_ac p 1048576 hp (by omega)
      rw [e1] at z1
      unfold patchV at z1 ⊢
      repeat' (first | simp only [go_sem, ↓reduceIte, Nat.reduceEqDiff, Nat.reduceAdd, Nat.reduceMul, Nat.reduceSub, Nat.reduceLeDiff, Nat.reduceLT, Nat.reduceBEq, Nat.reduceBNe, Int.reduceLT, Int.reduceLE, Int.reduceEq, Int.reduceNeg, Int.reduceToNat, Int.toNat_natCast, Int.natCast_nonneg, List.length_append, List.length_map, List.length_replicate, Bool.and_eq_true, decide_eq_true_eq, List.length_take, List.length_drop, Int.reduceSub, Int.reduceAdd, Int.reduceMul, Int.sub_zero, Int.add_zero, Int.zero_add, reduceCtorEq, decide_true, decide_false, Bool.false_eq_true, List.reduceReplicate, *] | simp (disch := omega) only [wrap_i64, wrap_u8, Int.tdiv_eq_ediv_of_nonneg, Int.tmod_eq_emod_of_nonneg, if_pos] | (refine callP_0 (z1 ..) (rfl) (rfl) ?_) | (refine callX_ac (z1 ..) (rfl) (rfl) ?_) | refine callP_x ?_ | (refine ret_gen (by first | exact .inr rfl | exact .inl rfl) (rfl) ?_) | (refine guardP_split (fun _ => ?_) (fun _ => ?_)) | (refine condP_split (fun _ => ?_) (fun _ => ?_)) | (refine guardP_splitB (fun _ => ?_) (fun _ => ?_)) | (refine condP_splitB (fun _ => ?_) (fun _ => ?_)))
  · unfold patchV
    repeat' (first | simp only [go_sem, ↓reduceIte, Nat.reduceEqDiff, Nat.reduceAdd, Nat.reduceMul, Nat.reduceSub, Nat.reduceLeDiff, Nat.reduceLT, Nat.reduceBEq, Nat.reduceBNe, Int.reduceLT, Int.reduceLE, Int.reduceEq, Int.reduceNeg, Int.reduceToNat, Int.toNat_natCast, Int.natCast_nonneg, List.length_append, List.length_map, List.length_replicate, Bool.and_eq_true, decide_eq_true_eq, List.length_take, List.length_drop, Int.reduceSub, Int.reduceAdd, Int.reduceMul, Int.sub_zero, Int.add_zero, Int.zero_add, reduceCtorEq, decide_true, decide_false, Bool.false_eq_true, List.reduceReplicate, *] | simp (disch := omega) only [wrap_i64, wrap_u8, Int.tdiv_eq_ediv_of_nonneg, Int.tmod_eq_emod_of_nonneg, if_pos] | refine callP_x ?_ | (refine ret_gen (by first | exact .inr rfl | exact .inl rfl) (rfl) ?_) | (refine guardP_split (fun _ => ?_) (fun _ => ?_)) | (refine condP_split (fun _ => ?_) (fun _ => ?_)) | (refine guardP_splitB (fun _ => ?_) (fun _ => ?_)) | (refine condP_splitB (fun _ => ?_) (fun _ => ?_)))
    all_goals omega
theorem law (xs : List AV) (h : DatA Try.prog [24, 9] xs) : AC Try.prog 3 xs (.bool true) := by
  simp only [datA_cons, datA_nil, datV_eq, tk24, tk9, datVK_struct, datVK_str, dat_succ, datK_str] at h
  obtain ⟨x, r, rfl, ⟨cs, rfl, h1⟩, y, r2, rfl, hy, rfl⟩ := h
  obtain ⟨p, rfl, hp⟩ := dat_patch 4 h1
  obtain ⟨b, hb, h2⟩ := hy
  simp only [List.cons.injEq, and_true] at hb
  subst hb
  exact law0 p b hp h2
set_option maxRecDepth 100000 in
theorem lifted (os : Os) (started : os.Started) (H : Type) (enc : TypeId × Value → H) :
    ReturnsInHanded {} Try.checked os 3 .any (Rows.fnExactApplyPatchSpec.pre6 enc Try.prog Try.f3 Rows.fnExactApplyPatchRow.domain false) (Rows.fnExactApplyPatchSpec.post enc Try.prog Try.f3 false true false false) := by
  refine returnsInHanded_of_change_sized (C := Try.checked) own started (by kernel_rfl) Try.func3
    (ChangeSpec.witness6 (enc := enc) (C := Try.checked) false ⟨#[], #[.agg #[.int .i64 0, .int .i64 0, .int .i64 0, .int .i64 0, .slice none 0 0], .string ⟨#[]⟩], []⟩ 8 (by kernel_rfl) (by kernel_rfl) (by kernel_rfl) (by kernel_rfl)) ?_
  intro W base args ds gs before hval0 hW hcnd hsz0 _
  have hval : ∀ (j : Nat) t v, Try.f3.params[j]? = some t → args[j]? = some v → Value.okWide Try.prog W .any base t v := hval0
  have hW' := hW
  obtain ⟨p, q, hA0, hV, rfl, hfz, hnd⟩ := hW
  have hA : DataW.TrodAll enc Try.prog W 0 (fun _ => true) true Try.f3.params.toList args.toList ds p := hA0
  rw [Try.params3] at hA hval
  obtain ⟨rfl, rfl⟩ := trodVars_none hV
  have hl : ds.length = 2 := trodAll_len hA
  clear hA0 hval0 hsz0
  refine (law_calls laid (by kernel_rfl) (by kernel_rfl) hA (fun j t v h h' => hval j t v (by simpa using h) h') law).mono fun e W' ⟨he, bel, hB⟩ => ?_
  subst he
  match ds, hl with
  | [d0, d1], _ => exact ⟨_, rfl, [d0, d1], [], _, [], _, [], hW', trodAll_mk1 (shut_bool Try.underlying4 _), hB, rfl, bel.frame _, fun h => by cases h⟩
theorem over : Rows.fnExactApplyPatchRow.holds Try.pinned (OpenSpec.ofChange Rows.fnExactApplyPatchSpec) :=
  OpenClaim.holds_of_wide 3 Try.f3 rfl rfl rfl rfl rfl rfl rfl ⟨rfl, rfl, rfl, rfl, rfl⟩ rfl rfl rfl rfl rfl (by kernel_rfl) Try.func3 (by kernel_rfl)
    (of_decide_eq_true (by kernel_rfl)) (by unfold Func.isWrapper; first | (rw [if_pos (by decide +kernel)]; kernel_rfl) | (rw [if_neg (by decide +kernel)]; exact ⟨rfl, rfl⟩))
    (fun os started H enc _ => lifted os started H enc)
theorem proved : Rows.FnExactApplyPatchSaid := over
end Go.Proofs.Ythdbfnjekbnbkaa.fnExactApplyPatch
namespace Go.Proofs.Ythdbfnjekbnbkaa
/-- The row, under a short name, for the claim. -/
theorem fnExactApplyPatch_holds : Rows.FnExactApplyPatchSaid := fnExactApplyPatch.proved
end Go.Proofs.Ythdbfnjekbnbkaa
#print axioms Go.Proofs.Ythdbfnjekbnbkaa.fnExactApplyPatch_holds
