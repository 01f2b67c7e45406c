/- The program function InvertPatch returns what the function of the reference returns, for all arguments. Conditions: those of the row alone. -/
import Derived.Test.YtkpcbgoljkccbaaRows
import Derived.Test.YtkpcbgoljkccbaaCInv
import Derived.WalkKit
import Derived.ProofKit
import Derived.OpenShut
import Derived.ShutString
import Derived.ChangeOld
import Derived.Below
import Derived.SizedLaws
namespace Go.Proofs.Ytkpcbgoljkccbaa.fnExactInvertPatch
open Go.ChangeShapes Go.WideShapes Go.ChangeAt Go.RowKit Go.Ab
open Go.ChangeMaps (open_string shut_string)
set_option linter.unusedVariables false
set_option linter.unusedSimpArgs false
theorem own : ownKnob Try.prog.godebug = none := by kernel_rfl
theorem laid : laidOutB Try.prog = true := by kernel_rfl
set_option maxRecDepth 10000
set_option maxHeartbeats 4000000
attribute [local go_sem] hunkV_eq
theorem law0 (p : PatchD) (hp : okPatch p) : AC Try.prog 14 [patchV p] (.bool true) := by
  by_cases h1 : (costPatch p : Int) ≤ 1048576
  · obtain ⟨hp1, hp2⟩ := patch_small h1
    have e1 : szR (costPatch p) 1048576 = 1048576 - (costPatch p : Int) := by unfold szR; rw [if_pos h1]
    have z1 := szPatch_ac p 1048576 hp (by omega)
    rw [e1] at z1
    have t1 := toPatchO_ac p hp1
    have q1 := eqPatch_ac p p hp1
    rw [decide_eq_true (rfl : p = p)] at q1
    have e2 : ((1 : Nat) : Int) = 1 := rfl
    have htk : (p.hunks.map hunkV).take p.hunks.length = p.hunks.map hunkV := List.take_of_length_le (by simp)
    have htm : ((hms 1 p.hunks.length).map hunkV).take p.hunks.length = (hms 1 p.hunks.length).map hunkV := List.take_of_length_le (by simp [hms_len])
    have hml := hms_len 1 p.hunks.length
    have hpos : ¬ ((1 + 3 * p.hunks.length : Nat) : Int) < 0 := by omega
    by_cases hok : patchOk p
    · have hi := iInvGood_ac p hp2 hok
      have hs := sInvGood_ac p hp2 hok
      have hcl := invL_len p p.hunks.length
      unfold invGood at hi hs
      generalize invL p p.hunks.length = L at hi hs hcl
      have htl : (L.map hunkV).take p.hunks.length = L.map hunkV := List.take_of_length_le (by simp [hcl])
      have q2 := eqPatch_ac ⟨p.dst, p.src, p.sumTo, p.sumFrom, L⟩ ⟨p.dst, p.src, p.sumTo, p.sumFrom, L⟩ (by show L.length ≤ _; omega)
      rw [decide_eq_true rfl, patchV_eq] at q2
      have hh := heldPatch_ac p.dst p.src p.sumTo p.sumFrom 1 p.hunks.length (by omega) (by omega)
      rw [e2] at hh
      unfold patchV at z1 hs hi t1 q1 ⊢
      refine AC.of_run mo Try.func14 Try.call14 ⟨rfl, Try.ntmps14, Try.results14, by kernel_rfl⟩ rfl ?_
      repeat' (first | simp only [go_sem, ↓reduceIte, Nat.reduceEqDiff, Nat.reduceAdd, Nat.reduceMul, Nat.reduceSub, Nat.reduceLeDiff, Nat.reduceLT, Nat.reduceBEq, Nat.reduceBNe, Int.reduceLT, Int.reduceLE, Int.reduceEq, Int.reduceNeg, Int.reduceToNat, Int.toNat_natCast, Int.natCast_nonneg, List.length_append, List.length_map, List.length_replicate, Bool.and_eq_true, decide_eq_true_eq, List.length_take, List.length_drop, Int.reduceSub, Int.reduceAdd, Int.reduceMul, Int.sub_zero, Int.add_zero, Int.zero_add, reduceCtorEq, decide_true, decide_false, Bool.false_eq_true, List.reduceReplicate, *] | simp (disch := omega) only [wrap_i64, wrap_u8, Int.tdiv_eq_ediv_of_nonneg, Int.tmod_eq_emod_of_nonneg, if_pos] | (refine callP_ac [] false ?_ (hi) (.inr (noMem_patch _ _ _ _ _ L)) (rfl) ?_) | (refine callP_ac [] false ?_ (hs) (.inr (noMem_patch _ _ _ _ _ L)) (rfl) ?_) | (refine callP_0 (z1 ..) (rfl) (rfl) ?_) | (refine callP_0 (t1 ..) (rfl) (rfl) ?_) | (refine callP_0 (q1 ..) (rfl) (rfl) ?_) | (refine callP_0 (q2 ..) (rfl) (rfl) ?_) | (refine callP_0 (hh ..) (rfl) (rfl) ?_) | (refine callX_ac (z1 ..) (rfl) (rfl) ?_) | (refine callX_ac (t1 ..) (rfl) (rfl) ?_) | (refine callX_ac (q1 ..) (rfl) (rfl) ?_) | (refine callX_ac (q2 ..) (rfl) (rfl) ?_) | (refine callX_ac (hh ..) (rfl) (rfl) ?_) | (refine callP_aw (markPatch_aw p.src p.dst p.sumFrom p.sumTo 1 p.hunks.length _ _ _ p.hunks (by omega) (by omega) rfl (by simp [go_sem] <;> done) (by decide)) ?_) | (refine callP_aw (markPatch_aw p.dst p.src p.sumTo p.sumFrom 1 p.hunks.length _ _ _ L (by omega) (by omega) hcl (by simp [go_sem] <;> done) (by decide)) ?_) | refine callP_x ?_ | (refine ret_gen (by first | exact .inr rfl | exact .inl rfl) (rfl) ?_) | (refine guardP_split (fun _ => ?_) (fun _ => ?_)) | (refine condP_split (fun _ => ?_) (fun _ => ?_)) | (refine guardP_splitB (fun _ => ?_) (fun _ => ?_)) | (refine condP_splitB (fun _ => ?_) (fun _ => ?_)))
      all_goals done
    · have hi := iInvBad_ac p hp2 hok
      have hs := sInvBad_ac p hp2 hok
      unfold invBad at hi hs
      have q2 := eqPatch_ac ⟨0, 0, 0, 0, []⟩ ⟨0, 0, 0, 0, []⟩ (by decide)
      rw [decide_eq_true rfl, patchV_eq] at q2
      have hh := heldPatch_ac 0 0 0 0 1 0 (by omega) (by omega)
      have e3 : (hms 1 0).map hunkV = [] := rfl
      rw [e2, e3] at hh
      have hm : ∀ id g H, H id = some ⟨3, [], g, true⟩ → id ≠ 900000 → AW Try.prog 45 [.agg [.int .i64 0, .int .i64 0, .int .i64 0, .int .i64 0, .ref id g 0 0], .int .i64 1] H (.int .i64 1) _ := fun id g H h h' => markPatch_aw 0 0 0 0 1 0 id g H [] (by omega) (by omega) rfl h h'
      unfold patchV at z1 hs hi t1 q1 ⊢
      refine AC.of_run mo Try.func14 Try.call14 ⟨rfl, Try.ntmps14, Try.results14, by kernel_rfl⟩ rfl ?_
      repeat' (first | simp only [go_sem, ↓reduceIte, Nat.reduceEqDiff, Nat.reduceAdd, Nat.reduceMul, Nat.reduceSub, Nat.reduceLeDiff, Nat.reduceLT, Nat.reduceBEq, Nat.reduceBNe, Int.reduceLT, Int.reduceLE, Int.reduceEq, Int.reduceNeg, Int.reduceToNat, Int.toNat_natCast, Int.natCast_nonneg, List.length_append, List.length_map, List.length_replicate, Bool.and_eq_true, decide_eq_true_eq, List.length_take, List.length_drop, Int.reduceSub, Int.reduceAdd, Int.reduceMul, Int.sub_zero, Int.add_zero, Int.zero_add, reduceCtorEq, decide_true, decide_false, Bool.false_eq_true, List.reduceReplicate, *] | simp (disch := omega) only [wrap_i64, wrap_u8, Int.tdiv_eq_ediv_of_nonneg, Int.tmod_eq_emod_of_nonneg, if_pos] | (refine callP_ac [] false ?_ (hi) (.inr (rfl)) (rfl) ?_) | (refine callP_ac [] false ?_ (hs) (.inr (rfl)) (rfl) ?_) | (refine callP_0 (z1 ..) (rfl) (rfl) ?_) | (refine callP_0 (t1 ..) (rfl) (rfl) ?_) | (refine callP_0 (q1 ..) (rfl) (rfl) ?_) | (refine callP_0 (q2 ..) (rfl) (rfl) ?_) | (refine callP_0 (hh ..) (rfl) (rfl) ?_) | (refine callX_ac (z1 ..) (rfl) (rfl) ?_) | (refine callX_ac (t1 ..) (rfl) (rfl) ?_) | (refine callX_ac (q1 ..) (rfl) (rfl) ?_) | (refine callX_ac (q2 ..) (rfl) (rfl) ?_) | (refine callX_ac (hh ..) (rfl) (rfl) ?_) | (refine callP_aw (hm _ _ _ (by simp [go_sem] <;> done) (by decide)) ?_) | (refine callP_aw (markPatch_aw p.src p.dst p.sumFrom p.sumTo 1 p.hunks.length _ _ _ p.hunks (by omega) (by omega) rfl (by simp [go_sem] <;> done) (by decide)) ?_) | refine callP_x ?_ | (refine ret_gen (by first | exact .inr rfl | exact .inl rfl) (rfl) ?_) | (refine guardP_split (fun _ => ?_) (fun _ => ?_)) | (refine condP_split (fun _ => ?_) (fun _ => ?_)) | (refine guardP_splitB (fun _ => ?_) (fun _ => ?_)) | (refine condP_splitB (fun _ => ?_) (fun _ => ?_)))
      all_goals done
  · have e1 : szR (costPatch p) 1048576 = -1 := by unfold szR; rw [if_neg h1]
    have z1 := szPatch_ac p 1048576 hp (by omega)
    rw [e1] at z1
    unfold patchV at z1 ⊢
    refine AC.of_run mo Try.func14 Try.call14 ⟨rfl, Try.ntmps14, Try.results14, by kernel_rfl⟩ rfl ?_
    repeat' (first | simp only [go_sem, ↓reduceIte, Nat.reduceEqDiff, Nat.reduceAdd, Nat.reduceMul, Nat.reduceSub, Nat.reduceLeDiff, Nat.reduceLT, Nat.reduceBEq, Nat.reduceBNe, Int.reduceLT, Int.reduceLE, Int.reduceEq, Int.reduceNeg, Int.reduceToNat, Int.toNat_natCast, Int.natCast_nonneg, List.length_append, List.length_map, List.length_replicate, Bool.and_eq_true, decide_eq_true_eq, List.length_take, List.length_drop, Int.reduceSub, Int.reduceAdd, Int.reduceMul, Int.sub_zero, Int.add_zero, Int.zero_add, reduceCtorEq, decide_true, decide_false, Bool.false_eq_true, List.reduceReplicate, *] | simp (disch := omega) only [wrap_i64, wrap_u8, Int.tdiv_eq_ediv_of_nonneg, Int.tmod_eq_emod_of_nonneg, if_pos] | (refine callP_0 (z1 ..) (rfl) (rfl) ?_) | (refine callX_ac (z1 ..) (rfl) (rfl) ?_) | refine callP_x ?_ | (refine ret_gen (by first | exact .inr rfl | exact .inl rfl) (rfl) ?_) | (refine guardP_split (fun _ => ?_) (fun _ => ?_)) | (refine condP_split (fun _ => ?_) (fun _ => ?_)) | (refine guardP_splitB (fun _ => ?_) (fun _ => ?_)) | (refine condP_splitB (fun _ => ?_) (fun _ => ?_)))
theorem law (xs : List AV) (h : DatA Try.prog [29] xs) : AC Try.prog 14 xs (.bool true) := by
  simp only [datA_cons, datA_nil, datV_eq, tk29, datVK_struct] at h
  obtain ⟨x, r, rfl, ⟨cs, rfl, h1⟩, rfl⟩ := h
  obtain ⟨p, rfl, hp⟩ := dat_patch 4 h1
  exact law0 p hp
set_option maxRecDepth 100000 in
theorem lifted (os : Os) (started : os.Started) (H : Type) (enc : TypeId × Value → H) :
    ReturnsInHanded {} Try.checked os 14 .any (Rows.fnExactInvertPatchSpec.pre6 enc Try.prog Try.f14 Rows.fnExactInvertPatchRow.domain false) (Rows.fnExactInvertPatchSpec.post enc Try.prog Try.f14 false true false false) := by
  refine returnsInHanded_of_change_sized (C := Try.checked) own started (by kernel_rfl) Try.func14
    (ChangeSpec.witness6 (enc := enc) (C := Try.checked) false ⟨#[], #[.agg #[.int .i64 0, .int .i64 0, .int .i64 0, .int .i64 0, .slice none 0 0]], []⟩ 8 (by kernel_rfl) (by kernel_rfl) (by kernel_rfl) (by kernel_rfl)) ?_
  intro W base args ds gs before hval0 hW hcnd hsz0 _
  have hval : ∀ (j : Nat) t v, Try.f14.params[j]? = some t → args[j]? = some v → Value.okWide Try.prog W .any base t v := hval0
  have hW' := hW
  obtain ⟨p, q, hA0, hV, rfl, hfz, hnd⟩ := hW
  have hA : DataW.TrodAll enc Try.prog W 0 (fun _ => true) true Try.f14.params.toList args.toList ds p := hA0
  rw [Try.params14] at hA hval
  obtain ⟨rfl, rfl⟩ := trodVars_none hV
  have hl : ds.length = 1 := trodAll_len hA
  clear hA0 hval0 hsz0
  refine (law_calls laid (by kernel_rfl) (by kernel_rfl) hA (fun j t v h h' => hval j t v (by simpa using h) h') law).mono fun e W' ⟨he, bel, hB⟩ => ?_
  subst he
  match ds, hl with
  | [d0], _ => exact ⟨_, rfl, [d0], [], _, [], _, [], hW', trodAll_mk1 (shut_bool Try.underlying4 _), hB, rfl, bel.frame _, fun h => by cases h⟩
theorem over : Rows.fnExactInvertPatchRow.holds Try.pinned (OpenSpec.ofChange Rows.fnExactInvertPatchSpec) :=
  OpenClaim.holds_of_wide 14 Try.f14 rfl rfl rfl rfl rfl rfl rfl ⟨rfl, rfl, rfl, rfl, rfl⟩ rfl rfl rfl rfl rfl (by kernel_rfl) Try.func14 (by kernel_rfl)
    (of_decide_eq_true (by kernel_rfl)) (by unfold Func.isWrapper; first | (rw [if_pos (by decide +kernel)]; kernel_rfl) | (rw [if_neg (by decide +kernel)]; exact ⟨rfl, rfl⟩))
    (fun os started H enc _ => lifted os started H enc)
theorem proved : Rows.FnExactInvertPatchSaid := over
end Go.Proofs.Ytkpcbgoljkccbaa.fnExactInvertPatch
namespace Go.Proofs.Ytkpcbgoljkccbaa
/-- The row, under a short name, for the claim. -/
theorem fnExactInvertPatch_holds : Rows.FnExactInvertPatchSaid := fnExactInvertPatch.proved
end Go.Proofs.Ytkpcbgoljkccbaa
#print axioms Go.Proofs.Ytkpcbgoljkccbaa.fnExactInvertPatch_holds
