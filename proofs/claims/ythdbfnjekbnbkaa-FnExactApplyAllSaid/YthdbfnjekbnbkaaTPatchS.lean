/- The contracts of a law's own functions on its types. Conditions: none. -/
import Derived.Test.YthdbfnjekbnbkaaTPatch
namespace Go.Ab
open Go.RowKit Go.Proofs
set_option maxRecDepth 10000
set_option maxHeartbeats 4000000
set_option linter.unusedSimpArgs false
set_option linter.unusedVariables false
attribute [local go_sem] hunkV_eq
attribute [local go_sem] patchV_eq
theorem toPatchS_ac (hs : List PatchD) (hl : hs.length ≤ 1048576) (hb2 : ∀ x ∈ hs, x.hunks.length ≤ 1048576) : AC Try.prog 37 [.lst (hs.map patchV)] (.own 5 (hs.map patchV)) := by
  refine AC.of_run mo Try.func37 Try.call37 ⟨rfl, Try.ntmps37, Try.results37, by kernel_rfl⟩ rfl ?_
  repeat' (first | simp only [go_sem, ↓reduceIte, Nat.reduceEqDiff, Nat.reduceAdd, Nat.reduceMul, Nat.reduceSub, Nat.reduceLeDiff, Nat.reduceLT, Nat.reduceBEq, Nat.reduceBNe, Int.reduceLT, Int.reduceLE, Int.reduceEq, Int.reduceNeg, Int.reduceToNat, Int.toNat_natCast, Int.natCast_nonneg, List.length_append, List.length_map, List.length_replicate, Bool.and_eq_true, decide_eq_true_eq, List.length_take, List.length_drop, Int.reduceSub, Int.reduceAdd, Int.reduceMul, Int.sub_zero, Int.add_zero, Int.zero_add, reduceCtorEq, decide_true, decide_false, Bool.false_eq_true, List.reduceReplicate, *] | simp (disch := omega) only [wrap_i64, wrap_u8, Int.tdiv_eq_ediv_of_nonneg, Int.tmod_eq_emod_of_nonneg, if_pos] | refine callP_x ?_ | (refine ret_gen (by first | exact .inr rfl | exact .inl rfl) (rfl) ?_) | (refine guardP_split (fun _ => ?_) (fun _ => ?_)) | (refine condP_split (fun _ => ?_) (fun _ => ?_)) | (refine guardP_splitB (fun _ => ?_) (fun _ => ?_)) | (refine condP_splitB (fun _ => ?_) (fun _ => ?_)))
  refine sx_loop (fun m s => ∃ i, i ≤ hs.length ∧ m = hs.length - i ∧ s.τ 0 = .lst (hs.map patchV) ∧ s.τ 3 = .ref 1002 0 0 hs.length ∧ s.τ 4 = .int .i64 (i : Int) ∧
    s.H 1002 = some ⟨5, (hs.take i).map patchV ++ List.replicate (hs.length - i) (.agg [.int .i64 0, .int .i64 0, .int .i64 0, .int .i64 0, .nil]), 0, true⟩) hs.length ⟨0, by simp [go_sem]⟩ ?_
  rintro m s ⟨i, hi, rfl, h0, h3, h4, hH⟩
  simp only [go_sem, ↓reduceIte, Nat.reduceEqDiff, Nat.reduceAdd, Nat.reduceMul, Nat.reduceSub, Nat.reduceLeDiff, Nat.reduceLT, Nat.reduceBEq, Nat.reduceBNe, Int.reduceLT, Int.reduceLE, Int.reduceEq, Int.reduceNeg, Int.reduceToNat, Int.toNat_natCast, Int.natCast_nonneg, List.length_append, List.length_map, List.length_replicate, Bool.and_eq_true, decide_eq_true_eq, List.length_take, List.length_drop, Int.reduceSub, Int.reduceAdd, Int.reduceMul, Int.sub_zero, Int.add_zero, Int.zero_add, reduceCtorEq, decide_true, decide_false, Bool.false_eq_true, List.reduceReplicate, *]
  refine condP_split (fun h => ?_) (fun h => ?_)
  · have hlt : i < hs.length := by omega
    have hg := get_map (f := patchV) hlt
    have hp := get_part (f := patchV) (z := .agg [.int .i64 0, .int .i64 0, .int .i64 0, .int .i64 0, .nil]) hlt
    have hset := set_part (f := patchV) (z := .agg [.int .i64 0, .int .i64 0, .int .i64 0, .int .i64 0, .nil]) hlt
    have ht := toPatch_ac hs[i] (hb2 _ (List.getElem_mem hlt))
    repeat' (first | simp only [go_sem, ↓reduceIte, Nat.reduceEqDiff, Nat.reduceAdd, Nat.reduceMul, Nat.reduceSub, Nat.reduceLeDiff, Nat.reduceLT, Nat.reduceBEq, Nat.reduceBNe, Int.reduceLT, Int.reduceLE, Int.reduceEq, Int.reduceNeg, Int.reduceToNat, Int.toNat_natCast, Int.natCast_nonneg, List.length_append, List.length_map, List.length_replicate, Bool.and_eq_true, decide_eq_true_eq, List.length_take, List.length_drop, Int.reduceSub, Int.reduceAdd, Int.reduceMul, Int.sub_zero, Int.add_zero, Int.zero_add, reduceCtorEq, decide_true, decide_false, Bool.false_eq_true, List.reduceReplicate, *] | simp (disch := omega) only [wrap_i64, wrap_u8, Int.tdiv_eq_ediv_of_nonneg, Int.tmod_eq_emod_of_nonneg, if_pos] | (refine callP_0 (ht ..) (rfl) (rfl) ?_) | (refine callX_ac (ht ..) (rfl) (rfl) ?_) | refine callP_x ?_ | (refine ret_gen (by first | exact .inr rfl | exact .inl rfl) (rfl) ?_) | (refine guardP_split (fun _ => ?_) (fun _ => ?_)) | (refine condP_split (fun _ => ?_) (fun _ => ?_)) | (refine guardP_splitB (fun _ => ?_) (fun _ => ?_)) | (refine condP_splitB (fun _ => ?_) (fun _ => ?_)))
    exact ⟨hs.length - (i + 1), by omega, i + 1, by omega, rfl, by simp only [Int.natCast_add, Int.cast_ofNat_Int], by rw [← hset] <;> rfl⟩
  · have e : i = hs.length := by omega
    subst e
    rw [List.take_length, Nat.sub_self, List.replicate_zero, List.append_nil] at hH
    repeat' (first | simp only [go_sem, ↓reduceIte, Nat.reduceEqDiff, Nat.reduceAdd, Nat.reduceMul, Nat.reduceSub, Nat.reduceLeDiff, Nat.reduceLT, Nat.reduceBEq, Nat.reduceBNe, Int.reduceLT, Int.reduceLE, Int.reduceEq, Int.reduceNeg, Int.reduceToNat, Int.toNat_natCast, Int.natCast_nonneg, List.length_append, List.length_map, List.length_replicate, Bool.and_eq_true, decide_eq_true_eq, List.length_take, List.length_drop, Int.reduceSub, Int.reduceAdd, Int.reduceMul, Int.sub_zero, Int.add_zero, Int.zero_add, reduceCtorEq, decide_true, decide_false, Bool.false_eq_true, List.reduceReplicate, *] | simp (disch := omega) only [wrap_i64, wrap_u8, Int.tdiv_eq_ediv_of_nonneg, Int.tmod_eq_emod_of_nonneg, if_pos] | refine callP_x ?_ | (refine ret_gen (by first | exact .inr rfl | exact .inl rfl) (rfl) ?_) | (refine guardP_split (fun _ => ?_) (fun _ => ?_)) | (refine condP_split (fun _ => ?_) (fun _ => ?_)) | (refine guardP_splitB (fun _ => ?_) (fun _ => ?_)) | (refine condP_splitB (fun _ => ?_) (fun _ => ?_)))
    exact own_map hH rfl fun a => rfl
theorem szPatchS_ac (hs : List PatchD) (n : Int) (hl : hs.length ≤ maxLen) (hok : ∀ x ∈ hs, okPatch x) (hn : 0 ≤ n ∧ n ≤ 1048576) : AC Try.prog 35 [.lst (hs.map patchV), .int .i64 n] (.int .i64 (szR (hs.length + csum costPatch hs) n)) := by
  refine AC.of_run mo Try.func35 Try.call35 ⟨rfl, Try.ntmps35, Try.results35, by kernel_rfl⟩ rfl ?_
  unfold maxLen at hl
  repeat' (first | simp only [go_sem, ↓reduceIte, Nat.reduceEqDiff, Nat.reduceAdd, Nat.reduceMul, Nat.reduceSub, Nat.reduceLeDiff, Nat.reduceLT, Nat.reduceBEq, Nat.reduceBNe, Int.reduceLT, Int.reduceLE, Int.reduceEq, Int.reduceNeg, Int.reduceToNat, Int.toNat_natCast, Int.natCast_nonneg, List.length_append, List.length_map, List.length_replicate, Bool.and_eq_true, decide_eq_true_eq, List.length_take, List.length_drop, Int.reduceSub, Int.reduceAdd, Int.reduceMul, Int.sub_zero, Int.add_zero, Int.zero_add, reduceCtorEq, decide_true, decide_false, Bool.false_eq_true, List.reduceReplicate, *] | simp (disch := omega) only [wrap_i64, wrap_u8, Int.tdiv_eq_ediv_of_nonneg, Int.tmod_eq_emod_of_nonneg, if_pos] | refine callP_x ?_ | (refine ret_gen (by first | exact .inr rfl | exact .inl rfl) (rfl) ?_) | (refine guardP_split (fun _ => ?_) (fun _ => ?_)) | (refine condP_split (fun _ => ?_) (fun _ => ?_)) | (refine guardP_splitB (fun _ => ?_) (fun _ => ?_)) | (refine condP_splitB (fun _ => ?_) (fun _ => ?_)))
  · grind [szR]
  refine sx_loop (fun m s => ∃ i, i ≤ hs.length ∧ m = hs.length - i ∧ s.τ 0 = .lst (hs.map patchV) ∧ s.τ 1 = .int .i64 (n - hs.length - csum costPatch (hs.take i)) ∧ s.τ 5 = .int .i64 (i : Int) ∧ 0 ≤ n - hs.length - csum costPatch (hs.take i)) hs.length ⟨0, by simp [go_sem, csum] <;> omega⟩ ?_
  rintro m s ⟨i, hi, rfl, h0, h1, h4, hpos⟩
  simp only [go_sem, ↓reduceIte, Nat.reduceEqDiff, Nat.reduceAdd, Nat.reduceMul, Nat.reduceSub, Nat.reduceLeDiff, Nat.reduceLT, Nat.reduceBEq, Nat.reduceBNe, Int.reduceLT, Int.reduceLE, Int.reduceEq, Int.reduceNeg, Int.reduceToNat, Int.toNat_natCast, Int.natCast_nonneg, List.length_append, List.length_map, List.length_replicate, Bool.and_eq_true, decide_eq_true_eq, List.length_take, List.length_drop, Int.reduceSub, Int.reduceAdd, Int.reduceMul, Int.sub_zero, Int.add_zero, Int.zero_add, reduceCtorEq, decide_true, decide_false, Bool.false_eq_true, List.reduceReplicate, h0, h1, h4]
  refine condP_split (fun h => ?_) (fun h => ?_)
  · have hlt : i < hs.length := by omega
    have hg := get_map (f := patchV) hlt
    have hx := hok _ (List.getElem_mem hlt)
    have hc := csum_succ costPatch hlt
    have hle := csum_le costPatch hs (i + 1)
    repeat' (first | simp only [go_sem, ↓reduceIte, Nat.reduceEqDiff, Nat.reduceAdd, Nat.reduceMul, Nat.reduceSub, Nat.reduceLeDiff, Nat.reduceLT, Nat.reduceBEq, Nat.reduceBNe, Int.reduceLT, Int.reduceLE, Int.reduceEq, Int.reduceNeg, Int.reduceToNat, Int.toNat_natCast, Int.natCast_nonneg, List.length_append, List.length_map, List.length_replicate, Bool.and_eq_true, decide_eq_true_eq, List.length_take, List.length_drop, Int.reduceSub, Int.reduceAdd, Int.reduceMul, Int.sub_zero, Int.add_zero, Int.zero_add, reduceCtorEq, decide_true, decide_false, Bool.false_eq_true, List.reduceReplicate, *] | simp (disch := omega) only [wrap_i64, wrap_u8, Int.tdiv_eq_ediv_of_nonneg, Int.tmod_eq_emod_of_nonneg, if_pos] | (refine callP_0 (szPatch_ac _ _ hx (by omega)) (rfl) (rfl) ?_) | (refine callX_ac (szPatch_ac _ _ hx (by omega)) (rfl) (rfl) ?_) | refine callP_x ?_ | (refine ret_gen (by first | exact .inr rfl | exact .inl rfl) (rfl) ?_) | (refine guardP_split (fun _ => ?_) (fun _ => ?_)) | (refine condP_split (fun _ => ?_) (fun _ => ?_)) | (refine guardP_splitB (fun _ => ?_) (fun _ => ?_)) | (refine condP_splitB (fun _ => ?_) (fun _ => ?_)))
    all_goals first
      | (refine ⟨hs.length - (i + 1), by omega, i + 1, by omega, rfl, ?_⟩; grind [szR])
      | grind [szR]
  · have e : i = hs.length := by omega
    subst e
    rw [List.take_length] at h1 hpos
    repeat' (first | simp only [go_sem, ↓reduceIte, Nat.reduceEqDiff, Nat.reduceAdd, Nat.reduceMul, Nat.reduceSub, Nat.reduceLeDiff, Nat.reduceLT, Nat.reduceBEq, Nat.reduceBNe, Int.reduceLT, Int.reduceLE, Int.reduceEq, Int.reduceNeg, Int.reduceToNat, Int.toNat_natCast, Int.natCast_nonneg, List.length_append, List.length_map, List.length_replicate, Bool.and_eq_true, decide_eq_true_eq, List.length_take, List.length_drop, Int.reduceSub, Int.reduceAdd, Int.reduceMul, Int.sub_zero, Int.add_zero, Int.zero_add, reduceCtorEq, decide_true, decide_false, Bool.false_eq_true, List.reduceReplicate, *] | simp (disch := omega) only [wrap_i64, wrap_u8, Int.tdiv_eq_ediv_of_nonneg, Int.tmod_eq_emod_of_nonneg, if_pos] | refine callP_x ?_ | (refine ret_gen (by first | exact .inr rfl | exact .inl rfl) (rfl) ?_) | (refine guardP_split (fun _ => ?_) (fun _ => ?_)) | (refine condP_split (fun _ => ?_) (fun _ => ?_)) | (refine guardP_splitB (fun _ => ?_) (fun _ => ?_)) | (refine condP_splitB (fun _ => ?_) (fun _ => ?_)))
    grind [szR]
theorem eqPatchS_ac (hs ks : List PatchD) (hb : hs.length ≤ 1048576) (hb2 : ∀ x ∈ hs, x.hunks.length ≤ 1048576) : AC Try.prog 38 [.lst (hs.map patchV), .lst (ks.map patchV)] (.bool (decide (hs = ks))) := by
  refine AC.of_run mo Try.func38 Try.call38 ⟨rfl, Try.ntmps38, Try.results38, by kernel_rfl⟩ rfl ?_
  repeat' (first | simp only [go_sem, ↓reduceIte, Nat.reduceEqDiff, Nat.reduceAdd, Nat.reduceMul, Nat.reduceSub, Nat.reduceLeDiff, Nat.reduceLT, Nat.reduceBEq, Nat.reduceBNe, Int.reduceLT, Int.reduceLE, Int.reduceEq, Int.reduceNeg, Int.reduceToNat, Int.toNat_natCast, Int.natCast_nonneg, List.length_append, List.length_map, List.length_replicate, Bool.and_eq_true, decide_eq_true_eq, List.length_take, List.length_drop, Int.reduceSub, Int.reduceAdd, Int.reduceMul, Int.sub_zero, Int.add_zero, Int.zero_add, reduceCtorEq, decide_true, decide_false, Bool.false_eq_true, List.reduceReplicate, *] | simp (disch := omega) only [wrap_i64, wrap_u8, Int.tdiv_eq_ediv_of_nonneg, Int.tmod_eq_emod_of_nonneg, if_pos] | refine callP_x ?_ | (refine ret_gen (by first | exact .inr rfl | exact .inl rfl) (rfl) ?_) | (refine guardP_split (fun _ => ?_) (fun _ => ?_)) | (refine condP_split (fun _ => ?_) (fun _ => ?_)) | (refine guardP_splitB (fun _ => ?_) (fun _ => ?_)) | (refine condP_splitB (fun _ => ?_) (fun _ => ?_)))
  rotate_left
  · symm; rw [decide_eq_false_iff_not]; rintro rfl; contradiction
  have hl : hs.length = ks.length := by omega
  refine sx_loop (fun m s => ∃ i, i ≤ hs.length ∧ m = hs.length - i ∧ s.τ 0 = .lst (hs.map patchV) ∧ s.τ 1 = .lst (ks.map patchV) ∧ s.τ 5 = .int .i64 (i : Int) ∧ hs.take i = ks.take i) hs.length ⟨0, by simp [go_sem]⟩ ?_
  rintro m s ⟨i, hi, rfl, h0, h1, h5, ht⟩
  simp only [go_sem, ↓reduceIte, Nat.reduceEqDiff, Nat.reduceAdd, Nat.reduceMul, Nat.reduceSub, Nat.reduceLeDiff, Nat.reduceLT, Nat.reduceBEq, Nat.reduceBNe, Int.reduceLT, Int.reduceLE, Int.reduceEq, Int.reduceNeg, Int.reduceToNat, Int.toNat_natCast, Int.natCast_nonneg, List.length_append, List.length_map, List.length_replicate, Bool.and_eq_true, decide_eq_true_eq, List.length_take, List.length_drop, Int.reduceSub, Int.reduceAdd, Int.reduceMul, Int.sub_zero, Int.add_zero, Int.zero_add, reduceCtorEq, decide_true, decide_false, Bool.false_eq_true, List.reduceReplicate, h0, h1, h5]
  refine condP_split (fun h => ?_) (fun h => ?_)
  · have hlt : i < hs.length := by omega
    have hlk : i < ks.length := by omega
    have hg := get_map (f := patchV) hlt
    have hk := get_map (f := patchV) hlk
    have hc := eqPatch_ac hs[i] ks[i] (hb2 _ (List.getElem_mem hlt))
    clear hl
    repeat' (first | simp only [go_sem, ↓reduceIte, Nat.reduceEqDiff, Nat.reduceAdd, Nat.reduceMul, Nat.reduceSub, Nat.reduceLeDiff, Nat.reduceLT, Nat.reduceBEq, Nat.reduceBNe, Int.reduceLT, Int.reduceLE, Int.reduceEq, Int.reduceNeg, Int.reduceToNat, Int.toNat_natCast, Int.natCast_nonneg, List.length_append, List.length_map, List.length_replicate, Bool.and_eq_true, decide_eq_true_eq, List.length_take, List.length_drop, Int.reduceSub, Int.reduceAdd, Int.reduceMul, Int.sub_zero, Int.add_zero, Int.zero_add, reduceCtorEq, decide_true, decide_false, Bool.false_eq_true, List.reduceReplicate, *] | simp (disch := omega) only [wrap_i64, wrap_u8, Int.tdiv_eq_ediv_of_nonneg, Int.tmod_eq_emod_of_nonneg, if_pos] | (refine callP_0 (hc ..) (rfl) (rfl) ?_) | (refine callX_ac (hc ..) (rfl) (rfl) ?_) | refine callP_x ?_ | (refine ret_gen (by first | exact .inr rfl | exact .inl rfl) (rfl) ?_) | (refine guardP_split (fun _ => ?_) (fun _ => ?_)) | (refine condP_split (fun _ => ?_) (fun _ => ?_)) | (refine guardP_splitB (fun _ => ?_) (fun _ => ?_)) | (refine condP_splitB (fun _ => ?_) (fun _ => ?_)))
    all_goals rename_i he
    all_goals first
      | exact ⟨hs.length - (i + 1), by omega, i + 1, by omega, rfl, by simp only [Int.natCast_add, Int.cast_ofNat_Int], take_step hlt hlk ht he⟩
      | (symm; rw [decide_eq_false_iff_not]; rintro rfl; exact he rfl)
  · have e : i = hs.length := by omega
    subst e
    repeat' (first | simp only [go_sem, ↓reduceIte, Nat.reduceEqDiff, Nat.reduceAdd, Nat.reduceMul, Nat.reduceSub, Nat.reduceLeDiff, Nat.reduceLT, Nat.reduceBEq, Nat.reduceBNe, Int.reduceLT, Int.reduceLE, Int.reduceEq, Int.reduceNeg, Int.reduceToNat, Int.toNat_natCast, Int.natCast_nonneg, List.length_append, List.length_map, List.length_replicate, Bool.and_eq_true, decide_eq_true_eq, List.length_take, List.length_drop, Int.reduceSub, Int.reduceAdd, Int.reduceMul, Int.sub_zero, Int.add_zero, Int.zero_add, reduceCtorEq, decide_true, decide_false, Bool.false_eq_true, List.reduceReplicate, *] | simp (disch := omega) only [wrap_i64, wrap_u8, Int.tdiv_eq_ediv_of_nonneg, Int.tmod_eq_emod_of_nonneg, if_pos] | refine callP_x ?_ | (refine ret_gen (by first | exact .inr rfl | exact .inl rfl) (rfl) ?_) | (refine guardP_split (fun _ => ?_) (fun _ => ?_)) | (refine condP_split (fun _ => ?_) (fun _ => ?_)) | (refine guardP_splitB (fun _ => ?_) (fun _ => ?_)) | (refine condP_splitB (fun _ => ?_) (fun _ => ?_)))
    symm; rw [decide_eq_true_iff]
    rw [List.take_length, hl, List.take_length] at ht
    exact ht
end Go.Ab
