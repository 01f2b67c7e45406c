/- The contracts of functions on patches. Conditions: none. -/
import Derived.Test.YthdbfnjekbnbkaaTPatch
namespace Go.Ab
open Go.RowKit Go.Proofs
set_option maxRecDepth 10000
set_option maxHeartbeats 4000000
set_option linter.unusedSimpArgs false
set_option linter.unusedVariables false
attribute [local go_sem] hunkV_eq
theorem hunk_deq {h k : HunkD} (e : (decide (h.pos = k.pos) && (decide (h.old = k.old) && decide (h.new = k.new))) = true) : h = k := by
  cases h; cases k; simp_all
theorem hunk_ne {h k : HunkD} (e : (decide (h.pos = k.pos) && (decide (h.old = k.old) && decide (h.new = k.new))) = false) : h ≠ k := by
  rintro rfl; simp at e
theorem sSamePatch_ac (p q : PatchD) (hb : p.hunks.length ≤ 1048576) : AC Try.prog 28 [patchV p, patchV q] (.bool (decide (p = q))) := by
  simp only [patchV_eq]
  refine AC.of_run mo Try.func28 Try.call28 ⟨rfl, Try.ntmps28, Try.results28, by kernel_rfl⟩ rfl ?_
  repeat' (first | simp only [go_sem, ↓reduceIte, Nat.reduceEqDiff, Nat.reduceAdd, Nat.reduceMul, Nat.reduceSub, Nat.reduceLeDiff, Nat.reduceLT, Nat.reduceBEq, Nat.reduceBNe, Int.reduceLT, Int.reduceLE, Int.reduceEq, Int.reduceNeg, Int.reduceToNat, Int.toNat_natCast, Int.natCast_nonneg, List.length_append, List.length_map, List.length_replicate, Bool.and_eq_true, decide_eq_true_eq, List.length_take, List.length_drop, Int.reduceSub, Int.reduceAdd, Int.reduceMul, Int.sub_zero, Int.add_zero, Int.zero_add, reduceCtorEq, decide_true, decide_false, Bool.false_eq_true, List.reduceReplicate, *] | simp (disch := omega) only [wrap_i64, wrap_u8, Int.tdiv_eq_ediv_of_nonneg, Int.tmod_eq_emod_of_nonneg, if_pos] | refine callP_x ?_ | (refine ret_gen (by first | exact .inr rfl | exact .inl rfl) (rfl) ?_) | (refine guardP_split (fun _ => ?_) (fun _ => ?_)) | (refine condP_split (fun _ => ?_) (fun _ => ?_)) | (refine guardP_splitB (fun _ => ?_) (fun _ => ?_)) | (refine condP_splitB (fun _ => ?_) (fun _ => ?_)))
  rotate_left
  all_goals first
    | (symm; rw [decide_eq_false_iff_not]; rintro rfl; contradiction)
    | skip
  have hl : p.hunks.length = q.hunks.length := by omega
  refine sx_loop (fun m s => ∃ i, i ≤ p.hunks.length ∧ m = p.hunks.length - i ∧ s.τ 2 = .ptr 0 0 0 0 ∧ s.τ 3 = .ptr 1 0 0 0 ∧ s.τ 5 = .int .i64 (i : Int) ∧ p.hunks.take i = q.hunks.take i ∧ s.nx = 0 ∧
    s.H 0 = some ⟨5, [patchV p], 0, true⟩ ∧ s.H 1 = some ⟨5, [patchV q], 0, true⟩) p.hunks.length ⟨0, by simp [go_sem, patchV_eq, *]⟩ ?_
  rintro m s ⟨i, hi, rfl, h2, h3, h5, ht, hnx, hH0, hH1⟩
  simp only [patchV_eq] at hH0 hH1
  simp only [go_sem, ↓reduceIte, Nat.reduceEqDiff, Nat.reduceAdd, Nat.reduceMul, Nat.reduceSub, Nat.reduceLeDiff, Nat.reduceLT, Nat.reduceBEq, Nat.reduceBNe, Int.reduceLT, Int.reduceLE, Int.reduceEq, Int.reduceNeg, Int.reduceToNat, Int.toNat_natCast, Int.natCast_nonneg, List.length_append, List.length_map, List.length_replicate, Bool.and_eq_true, decide_eq_true_eq, List.length_take, List.length_drop, Int.reduceSub, Int.reduceAdd, Int.reduceMul, Int.sub_zero, Int.add_zero, Int.zero_add, reduceCtorEq, decide_true, decide_false, Bool.false_eq_true, List.reduceReplicate, h2, h3, h5, hH0]
  refine condP_split (fun h => ?_) (fun h => ?_)
  · have hlt : i < p.hunks.length := by omega
    have hlk : i < q.hunks.length := by omega
    have hg := get_map (f := hunkV) hlt
    have hk := get_map (f := hunkV) hlk
    clear hl
    repeat' (first | simp only [go_sem, ↓reduceIte, Nat.reduceEqDiff, Nat.reduceAdd, Nat.reduceMul, Nat.reduceSub, Nat.reduceLeDiff, Nat.reduceLT, Nat.reduceBEq, Nat.reduceBNe, Int.reduceLT, Int.reduceLE, Int.reduceEq, Int.reduceNeg, Int.reduceToNat, Int.toNat_natCast, Int.natCast_nonneg, List.length_append, List.length_map, List.length_replicate, Bool.and_eq_true, decide_eq_true_eq, List.length_take, List.length_drop, Int.reduceSub, Int.reduceAdd, Int.reduceMul, Int.sub_zero, Int.add_zero, Int.zero_add, reduceCtorEq, decide_true, decide_false, Bool.false_eq_true, List.reduceReplicate, *] | simp (disch := omega) only [wrap_i64, wrap_u8, Int.tdiv_eq_ediv_of_nonneg, Int.tmod_eq_emod_of_nonneg, if_pos] | refine callP_x ?_ | (refine ret_gen (by first | exact .inr rfl | exact .inl rfl) (rfl) ?_) | (refine guardP_split (fun _ => ?_) (fun _ => ?_)) | (refine condP_split (fun _ => ?_) (fun _ => ?_)) | (refine guardP_splitB (fun _ => ?_) (fun _ => ?_)) | (refine condP_splitB (fun _ => ?_) (fun _ => ?_)))
    · rename_i he
      exact ⟨p.hunks.length - (i + 1), by omega, i + 1, by omega, rfl, by simp only [Int.natCast_add, Int.cast_ofNat_Int], take_step hlt hlk ht (hunk_deq he), by simp only [patchV_eq, *], by simp only [patchV_eq]⟩
    · rename_i he
      symm; rw [decide_eq_false_iff_not]; rintro rfl; exact hunk_ne he rfl
  · have e : i = p.hunks.length := by omega
    subst e
    repeat' (first | simp only [go_sem, ↓reduceIte, Nat.reduceEqDiff, Nat.reduceAdd, Nat.reduceMul, Nat.reduceSub, Nat.reduceLeDiff, Nat.reduceLT, Nat.reduceBEq, Nat.reduceBNe, Int.reduceLT, Int.reduceLE, Int.reduceEq, Int.reduceNeg, Int.reduceToNat, Int.toNat_natCast, Int.natCast_nonneg, List.length_append, List.length_map, List.length_replicate, Bool.and_eq_true, decide_eq_true_eq, List.length_take, List.length_drop, Int.reduceSub, Int.reduceAdd, Int.reduceMul, Int.sub_zero, Int.add_zero, Int.zero_add, reduceCtorEq, decide_true, decide_false, Bool.false_eq_true, List.reduceReplicate, *] | simp (disch := omega) only [wrap_i64, wrap_u8, Int.tdiv_eq_ediv_of_nonneg, Int.tmod_eq_emod_of_nonneg, if_pos] | refine callP_x ?_ | (refine ret_gen (by first | exact .inr rfl | exact .inl rfl) (rfl) ?_) | (refine guardP_split (fun _ => ?_) (fun _ => ?_)) | (refine condP_split (fun _ => ?_) (fun _ => ?_)) | (refine guardP_splitB (fun _ => ?_) (fun _ => ?_)) | (refine condP_splitB (fun _ => ?_) (fun _ => ?_)))
    symm; rw [decide_eq_true_iff]
    rw [List.take_length, hl, List.take_length] at ht
    exact patch_ext (by assumption) (by assumption) (by assumption) (by assumption) ht
end Go.Ab
