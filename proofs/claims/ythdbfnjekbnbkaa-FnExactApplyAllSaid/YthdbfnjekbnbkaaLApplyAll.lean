/- The program function ApplyAll returns what the function of the reference returns, for all arguments. Conditions: those of the row alone. -/
import Derived.Test.YthdbfnjekbnbkaaRows
import Derived.Test.YthdbfnjekbnbkaaCAll
import Derived.WalkKit
import Derived.ProofKit
import Derived.OpenShut
import Derived.ShutString
import Derived.ChangeOld
import Derived.Below
import Derived.SizedLaws
namespace Go.Proofs.Ythdbfnjekbnbkaa.fnExactApplyAll
open Go.ChangeShapes Go.WideShapes Go.ChangeAt Go.RowKit Go.Ab
open Go.ChangeMaps (open_string shut_string)
set_option linter.unusedVariables false
set_option linter.unusedSimpArgs false
theorem own : ownKnob Try.prog.godebug = none := by kernel_rfl
theorem laid : laidOutB Try.prog = true := by kernel_rfl
set_option maxRecDepth 10000
set_option maxHeartbeats 4000000
theorem law0 (ps : List PatchD) (b : List UInt8) (hl : ps.length ≤ maxLen) (hok : ∀ p ∈ ps, okPatch p) (hb : b.length ≤ maxLen) : AC Try.prog 8 [.lst (ps.map patchV), .str b] (.bool true) := by
  refine AC.of_run mo Try.func8 Try.call8 ⟨rfl, Try.ntmps8, Try.results8, by kernel_rfl⟩ rfl ?_
  by_cases hbl : b.length ≤ 1048576
  · by_cases h1 : ((ps.length + csum costPatch ps : Nat) : Int) ≤ 1048576
    · obtain ⟨hp1, hp2⟩ := patchS_small h1
      have e1 : szR (ps.length + csum costPatch ps) 1048576 = 1048576 - ((ps.length + csum costPatch ps : Nat) : Int) := by unfold szR; rw [if_pos h1]
      have z1 := szPatchS_ac ps 1048576 hl hok (by omega)
      rw [e1] at z1
      have hs := sApplyAll_ac ps b hbl hp1 hp2
      have hi := iApplyAll_ac ps b hbl hp1 hp2
      obtain ⟨x, y, z, hxy⟩ := allR_three ps b
      rw [hxy] at hs hi
      have t1 := (toPatchS_ac ps hp1 fun p hp => (hp2 p hp).1).own_lst
      have q1 := eqPatchS_ac ps ps hp1 fun p hp => (hp2 p hp).1
      rw [decide_eq_true (rfl : ps = ps)] at q1
      have hpos : ¬ 1048576 - ((ps.length + csum costPatch ps : Nat) : Int) < 0 := by omega
      repeat' (first | simp only [go_sem, ↓reduceIte, Nat.reduceEqDiff, Nat.reduceAdd, Nat.reduceMul, Nat.reduceSub, Nat.reduceLeDiff, Nat.reduceLT, Nat.reduceBEq, Nat.reduceBNe, Int.reduceLT, Int.reduceLE, Int.reduceEq, Int.reduceNeg, Int.reduceToNat, Int.toNat_natCast, Int.natCast_nonneg, List.length_append, List.length_map, List.length_replicate, Bool.and_eq_true, decide_eq_true_eq, List.length_take, List.length_drop, Int.reduceSub, Int.reduceAdd, Int.reduceMul, Int.sub_zero, Int.add_zero, Int.zero_add, reduceCtorEq, decide_true, decide_false, Bool.false_eq_true, List.reduceReplicate, *] | simp (disch := omega) only [wrap_i64, wrap_u8, Int.tdiv_eq_ediv_of_nonneg, Int.tmod_eq_emod_of_nonneg, if_pos] | (refine callP_0 (z1 ..) (rfl) (rfl) ?_) | (refine callP_0 (hs ..) (rfl) (rfl) ?_) | (refine callP_0 (hi ..) (rfl) (rfl) ?_) | (refine callP_0 (t1 ..) (rfl) (rfl) ?_) | (refine callP_0 (q1 ..) (rfl) (rfl) ?_) | (refine callX_ac (z1 ..) (rfl) (rfl) ?_) | (refine callX_ac (hs ..) (rfl) (rfl) ?_) | (refine callX_ac (hi ..) (rfl) (rfl) ?_) | (refine callX_ac (t1 ..) (rfl) (rfl) ?_) | (refine callX_ac (q1 ..) (rfl) (rfl) ?_) | refine callP_x ?_ | (refine ret_gen (by first | exact .inr rfl | exact .inl rfl) (rfl) ?_) | (refine guardP_split (fun _ => ?_) (fun _ => ?_)) | (refine condP_split (fun _ => ?_) (fun _ => ?_)) | (refine guardP_splitB (fun _ => ?_) (fun _ => ?_)) | (refine condP_splitB (fun _ => ?_) (fun _ => ?_)))
    · have e1 : szR (ps.length + csum costPatch ps) 1048576 = -1 := by unfold szR; rw [if_neg h1]
      have z1 := szPatchS_ac ps 1048576 hl hok (by omega)
      rw [e1] at z1
      repeat' (first | simp only [go_sem, ↓reduceIte, Nat.reduceEqDiff, Nat.reduceAdd, Nat.reduceMul, Nat.reduceSub, Nat.reduceLeDiff, Nat.reduceLT, Nat.reduceBEq, Nat.reduceBNe, Int.reduceLT, Int.reduceLE, Int.reduceEq, Int.reduceNeg, Int.reduceToNat, Int.toNat_natCast, Int.natCast_nonneg, List.length_append, List.length_map, List.length_replicate, Bool.and_eq_true, decide_eq_true_eq, List.length_take, List.length_drop, Int.reduceSub, Int.reduceAdd, Int.reduceMul, Int.sub_zero, Int.add_zero, Int.zero_add, reduceCtorEq, decide_true, decide_false, Bool.false_eq_true, List.reduceReplicate, *] | simp (disch := omega) only [wrap_i64, wrap_u8, Int.tdiv_eq_ediv_of_nonneg, Int.tmod_eq_emod_of_nonneg, if_pos] | (refine callP_0 (z1 ..) (rfl) (rfl) ?_) | (refine callX_ac (z1 ..) (rfl) (rfl) ?_) | refine callP_x ?_ | (refine ret_gen (by first | exact .inr rfl | exact .inl rfl) (rfl) ?_) | (refine guardP_split (fun _ => ?_) (fun _ => ?_)) | (refine condP_split (fun _ => ?_) (fun _ => ?_)) | (refine guardP_splitB (fun _ => ?_) (fun _ => ?_)) | (refine condP_splitB (fun _ => ?_) (fun _ => ?_)))
  · repeat' (first | simp only [go_sem, ↓reduceIte, Nat.reduceEqDiff, Nat.reduceAdd, Nat.reduceMul, Nat.reduceSub, Nat.reduceLeDiff, Nat.reduceLT, Nat.reduceBEq, Nat.reduceBNe, Int.reduceLT, Int.reduceLE, Int.reduceEq, Int.reduceNeg, Int.reduceToNat, Int.toNat_natCast, Int.natCast_nonneg, List.length_append, List.length_map, List.length_replicate, Bool.and_eq_true, decide_eq_true_eq, List.length_take, List.length_drop, Int.reduceSub, Int.reduceAdd, Int.reduceMul, Int.sub_zero, Int.add_zero, Int.zero_add, reduceCtorEq, decide_true, decide_false, Bool.false_eq_true, List.reduceReplicate, *] | simp (disch := omega) only [wrap_i64, wrap_u8, Int.tdiv_eq_ediv_of_nonneg, Int.tmod_eq_emod_of_nonneg, if_pos] | refine callP_x ?_ | (refine ret_gen (by first | exact .inr rfl | exact .inl rfl) (rfl) ?_) | (refine guardP_split (fun _ => ?_) (fun _ => ?_)) | (refine condP_split (fun _ => ?_) (fun _ => ?_)) | (refine guardP_splitB (fun _ => ?_) (fun _ => ?_)) | (refine condP_splitB (fun _ => ?_) (fun _ => ?_)))
    all_goals omega
theorem law (xs : List AV) (h : DatA Try.prog [64, 9] xs) : AC Try.prog 8 xs (.bool true) := by
  simp only [datA_cons, datA_nil, datV_eq, tk64, tk24, tk9, datVK_struct, datVK_slice, datVK_str, dat_succ, datK_str, datK_slice] at h
  obtain ⟨x, r, rfl, ⟨ys, hy, h1, h2⟩, y, r2, rfl, hz, rfl⟩ := h
  simp only [List.cons.injEq, and_true] at hy
  subst hy
  obtain ⟨ps, rfl, hp⟩ := all_map (f := patchV) (P := okPatch) fun z hz => by
    obtain ⟨c, rfl, hc⟩ := h2 z hz
    obtain ⟨w, rfl, hw⟩ := dat_patch 3 (by rw [dat_succ, tk24]; exact hc)
    exact ⟨w, rfl, hw⟩
  obtain ⟨b, hb, h3⟩ := hz
  simp only [List.cons.injEq, and_true] at hb
  subst hb
  rw [List.length_map] at h1
  exact law0 ps b h1 hp h3
set_option maxRecDepth 100000 in
theorem lifted (os : Os) (started : os.Started) (H : Type) (enc : TypeId × Value → H) :
    ReturnsInHanded {} Try.checked os 8 .any (Rows.fnExactApplyAllSpec.pre6 enc Try.prog Try.f8 Rows.fnExactApplyAllRow.domain false) (Rows.fnExactApplyAllSpec.post enc Try.prog Try.f8 false true false false) := by
  refine returnsInHanded_of_change_sized (C := Try.checked) own started (by kernel_rfl) Try.func8
    (ChangeSpec.witness6 (enc := enc) (C := Try.checked) false ⟨#[], #[.slice none 0 0, .string ⟨#[]⟩], []⟩ 8 (by kernel_rfl) (by kernel_rfl) (by kernel_rfl) (by kernel_rfl)) ?_
  intro W base args ds gs before hval0 hW hcnd hsz0 _
  have hval : ∀ (j : Nat) t v, Try.f8.params[j]? = some t → args[j]? = some v → Value.okWide Try.prog W .any base t v := hval0
  have hW' := hW
  obtain ⟨p, q, hA0, hV, rfl, hfz, hnd⟩ := hW
  have hA : DataW.TrodAll enc Try.prog W 0 (fun _ => true) true Try.f8.params.toList args.toList ds p := hA0
  rw [Try.params8] at hA hval
  obtain ⟨rfl, rfl⟩ := trodVars_none hV
  have hl : ds.length = 2 := trodAll_len hA
  clear hA0 hval0 hsz0
  refine (law_calls laid (by kernel_rfl) (by kernel_rfl) hA (fun j t v h h' => hval j t v (by simpa using h) h') law).mono fun e W' ⟨he, bel, hB⟩ => ?_
  subst he
  match ds, hl with
  | [d0, d1], _ => exact ⟨_, rfl, [d0, d1], [], _, [], _, [], hW', trodAll_mk1 (shut_bool Try.underlying4 _), hB, rfl, bel.frame _, fun h => by cases h⟩
theorem over : Rows.fnExactApplyAllRow.holds Try.pinned (OpenSpec.ofChange Rows.fnExactApplyAllSpec) :=
  OpenClaim.holds_of_wide 8 Try.f8 rfl rfl rfl rfl rfl rfl rfl ⟨rfl, rfl, rfl, rfl, rfl⟩ rfl rfl rfl rfl rfl (by kernel_rfl) Try.func8 (by kernel_rfl)
    (of_decide_eq_true (by kernel_rfl)) (by unfold Func.isWrapper; first | (rw [if_pos (by decide +kernel)]; kernel_rfl) | (rw [if_neg (by decide +kernel)]; exact ⟨rfl, rfl⟩))
    (fun os started H enc _ => lifted os started H enc)
theorem proved : Rows.FnExactApplyAllSaid := over
end Go.Proofs.Ythdbfnjekbnbkaa.fnExactApplyAll
namespace Go.Proofs.Ythdbfnjekbnbkaa
/-- The row, under a short name, for the claim. -/
theorem fnExactApplyAll_holds : Rows.FnExactApplyAllSaid := fnExactApplyAll.proved
end Go.Proofs.Ythdbfnjekbnbkaa
#print axioms Go.Proofs.Ythdbfnjekbnbkaa.fnExactApplyAll_holds
