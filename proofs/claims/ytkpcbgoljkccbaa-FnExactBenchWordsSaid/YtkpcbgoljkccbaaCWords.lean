/- The contracts of the words of a bench. Conditions: none. -/
import Derived.Test.YtkpcbgoljkccbaaCMark
namespace Go.Ab
open Go.RowKit Go.Proofs
set_option maxRecDepth 10000
set_option maxHeartbeats 4000000
set_option linter.unusedSimpArgs false
set_option linter.unusedVariables false
def benchWords : List (List UInt8) := [[98, 117, 105, 108, 100], [99, 97, 114, 118, 101], [99, 104, 101, 99, 107], [100, 101, 108, 101, 116, 101], [100, 114, 105, 102, 116], [102, 101, 97, 116, 117, 114, 101, 115], [102, 108, 105, 112], [103, 101, 116], [108, 105, 115, 116], [112, 97, 114, 105, 116, 121], [112, 108, 97, 105, 110], [112, 114, 111, 116, 101, 99, 116], [114, 101, 97, 100], [114, 101, 112, 97, 105, 114], [115, 101, 99, 116, 111, 114], [115, 112, 111, 105, 108], [115, 121, 115, 116, 101, 109], [116, 114, 97, 99, 107], [116, 117, 114, 110], [117, 110, 100, 101, 108, 101, 116, 101], [118, 101, 114, 105, 102, 121], [119, 114, 105, 116, 101]]
theorem benchWords_len : benchWords.length = 22 := (rfl)
theorem bw_raw : benchWords.map AV.str = [.str [98, 117, 105, 108, 100], .str [99, 97, 114, 118, 101], .str [99, 104, 101, 99, 107], .str [100, 101, 108, 101, 116, 101], .str [100, 114, 105, 102, 116], .str [102, 101, 97, 116, 117, 114, 101, 115], .str [102, 108, 105, 112], .str [103, 101, 116], .str [108, 105, 115, 116], .str [112, 97, 114, 105, 116, 121], .str [112, 108, 97, 105, 110], .str [112, 114, 111, 116, 101, 99, 116], .str [114, 101, 97, 100], .str [114, 101, 112, 97, 105, 114], .str [115, 101, 99, 116, 111, 114], .str [115, 112, 111, 105, 108], .str [115, 121, 115, 116, 101, 109], .str [116, 114, 97, 99, 107], .str [116, 117, 114, 110], .str [117, 110, 100, 101, 108, 101, 116, 101], .str [118, 101, 114, 105, 102, 121], .str [119, 114, 105, 116, 101]] := (rfl)
theorem iBenchWords_ac : AC Try.prog 16 [] (.own 1 (benchWords.map .str)) := by
  rw [bw_raw]
  refine AC.of_run mo Try.func16 Try.call16 ⟨rfl, Try.ntmps16, Try.results16, by kernel_rfl⟩ rfl ?_
  repeat' (first | simp only [go_sem, ↓reduceIte, Nat.reduceEqDiff, Nat.reduceAdd, Nat.reduceMul, Nat.reduceSub, Nat.reduceLeDiff, Nat.reduceLT, Nat.reduceBEq, Nat.reduceBNe, Int.reduceLT, Int.reduceLE, Int.reduceEq, Int.reduceNeg, Int.reduceToNat, Int.toNat_natCast, Int.natCast_nonneg, List.length_append, List.length_map, List.length_replicate, Bool.and_eq_true, decide_eq_true_eq, List.length_take, List.length_drop, Int.reduceSub, Int.reduceAdd, Int.reduceMul, Int.sub_zero, Int.add_zero, Int.zero_add, reduceCtorEq, decide_true, decide_false, Bool.false_eq_true, List.reduceReplicate, *] | simp (disch := omega) only [wrap_i64, wrap_u8, Int.tdiv_eq_ediv_of_nonneg, Int.tmod_eq_emod_of_nonneg, if_pos] | refine callP_x ?_ | (refine ret_gen (by first | exact .inr rfl | exact .inl rfl) (rfl) ?_) | (refine guardP_split (fun _ => ?_) (fun _ => ?_)) | (refine condP_split (fun _ => ?_) (fun _ => ?_)) | (refine guardP_splitB (fun _ => ?_) (fun _ => ?_)) | (refine condP_splitB (fun _ => ?_) (fun _ => ?_)))
  rw [← bw_raw]
  exact own_map (by simp only [go_sem]; rfl) rfl fun a => rfl
theorem sBenchWords_ac : AC Try.prog 15 [] (.own 1 (benchWords.map .str)) := by
  rw [bw_raw]
  refine AC.of_run mo Try.func15 Try.call15 ⟨rfl, Try.ntmps15, Try.results15, by kernel_rfl⟩ rfl ?_
  repeat' (first | simp only [go_sem, ↓reduceIte, Nat.reduceEqDiff, Nat.reduceAdd, Nat.reduceMul, Nat.reduceSub, Nat.reduceLeDiff, Nat.reduceLT, Nat.reduceBEq, Nat.reduceBNe, Int.reduceLT, Int.reduceLE, Int.reduceEq, Int.reduceNeg, Int.reduceToNat, Int.toNat_natCast, Int.natCast_nonneg, List.length_append, List.length_map, List.length_replicate, Bool.and_eq_true, decide_eq_true_eq, List.length_take, List.length_drop, Int.reduceSub, Int.reduceAdd, Int.reduceMul, Int.sub_zero, Int.add_zero, Int.zero_add, reduceCtorEq, decide_true, decide_false, Bool.false_eq_true, List.reduceReplicate, *] | simp (disch := omega) only [wrap_i64, wrap_u8, Int.tdiv_eq_ediv_of_nonneg, Int.tmod_eq_emod_of_nonneg, if_pos] | refine callP_x ?_ | (refine ret_gen (by first | exact .inr rfl | exact .inl rfl) (rfl) ?_) | (refine guardP_split (fun _ => ?_) (fun _ => ?_)) | (refine condP_split (fun _ => ?_) (fun _ => ?_)) | (refine guardP_splitB (fun _ => ?_) (fun _ => ?_)) | (refine condP_splitB (fun _ => ?_) (fun _ => ?_)))
  rw [← bw_raw]
  exact own_map (by simp only [go_sem]; rfl) rfl fun a => rfl
end Go.Ab
