/- The contracts of what the law on banks calls. Conditions: none. -/
import Derived.Test.YtjoomndcdpkplaaDoorCDraw
import Derived.Test.YtjoomndcdpkplaaDoorCPoke
import Derived.Test.YtjoomndcdpkplaaDoorCFile
namespace Go.Ab
open Go.RowKit Go.Proofs
set_option maxRecDepth 10000
set_option maxHeartbeats 4000000
set_option linter.unusedSimpArgs false
set_option linter.unusedVariables false
theorem a2Long_ac (xs ys : List AV) (h1 : xs.length ≤ maxLen) (h2 : ys.length ≤ maxLen) : AC Tryd.prog 5 [.lst xs, .lst ys] (.bool (decide (3000 < xs.length ∨ 3000 < ys.length))) := by
  unfold maxLen at h1 h2
  by_cases c1 : 3000 < xs.length
  · have c1' : (3000 : Int) < (xs.length : Int) := by omega
    have e : decide (3000 < xs.length ∨ 3000 < ys.length) = true := decide_eq_true (.inl c1)
    rw [e]
    refine AC.of_run mo Tryd.func5 Tryd.call5 ⟨rfl, Tryd.ntmps5, Tryd.results5, by kernel_rfl⟩ rfl ?_
    repeat' (first | simp only [go_sem, ↓reduceIte, Nat.reduceEqDiff, Nat.reduceAdd, Nat.reduceMul, Nat.reduceSub, Nat.reduceLeDiff, Nat.reduceLT, Nat.reduceBEq, Nat.reduceBNe, Int.reduceLT, Int.reduceLE, Int.reduceEq, Int.reduceNeg, Int.reduceToNat, Int.toNat_natCast, Int.natCast_nonneg, List.length_append, List.length_map, List.length_replicate, Bool.and_eq_true, decide_eq_true_eq, List.length_take, List.length_drop, Int.reduceSub, Int.reduceAdd, Int.reduceMul, Int.sub_zero, Int.add_zero, Int.zero_add, reduceCtorEq, decide_true, decide_false, Bool.false_eq_true, List.reduceReplicate, *] | simp (disch := omega) only [wrap_i64, wrap_u8, Int.tdiv_eq_ediv_of_nonneg, Int.tmod_eq_emod_of_nonneg, if_pos] | refine callP_x ?_ | (refine ret_gen (by first | exact .inr rfl | exact .inl rfl) (rfl) ?_) | (refine guardP_split (fun _ => ?_) (fun _ => ?_)) | (refine condP_split (fun _ => ?_) (fun _ => ?_)) | (refine guardP_splitB (fun _ => ?_) (fun _ => ?_)) | (refine condP_splitB (fun _ => ?_) (fun _ => ?_)))
  · have c1' : ¬ (3000 : Int) < (xs.length : Int) := by omega
    by_cases c2 : 3000 < ys.length
    · have c2' : (3000 : Int) < (ys.length : Int) := by omega
      have e : decide (3000 < xs.length ∨ 3000 < ys.length) = true := decide_eq_true (.inr c2)
      rw [e]
      refine AC.of_run mo Tryd.func5 Tryd.call5 ⟨rfl, Tryd.ntmps5, Tryd.results5, by kernel_rfl⟩ rfl ?_
      repeat' (first | simp only [go_sem, ↓reduceIte, Nat.reduceEqDiff, Nat.reduceAdd, Nat.reduceMul, Nat.reduceSub, Nat.reduceLeDiff, Nat.reduceLT, Nat.reduceBEq, Nat.reduceBNe, Int.reduceLT, Int.reduceLE, Int.reduceEq, Int.reduceNeg, Int.reduceToNat, Int.toNat_natCast, Int.natCast_nonneg, List.length_append, List.length_map, List.length_replicate, Bool.and_eq_true, decide_eq_true_eq, List.length_take, List.length_drop, Int.reduceSub, Int.reduceAdd, Int.reduceMul, Int.sub_zero, Int.add_zero, Int.zero_add, reduceCtorEq, decide_true, decide_false, Bool.false_eq_true, List.reduceReplicate, *] | simp (disch := omega) only [wrap_i64, wrap_u8, Int.tdiv_eq_ediv_of_nonneg, Int.tmod_eq_emod_of_nonneg, if_pos] | refine callP_x ?_ | (refine ret_gen (by first | exact .inr rfl | exact .inl rfl) (rfl) ?_) | (refine guardP_split (fun _ => ?_) (fun _ => ?_)) | (refine condP_split (fun _ => ?_) (fun _ => ?_)) | (refine guardP_splitB (fun _ => ?_) (fun _ => ?_)) | (refine condP_splitB (fun _ => ?_) (fun _ => ?_)))
    · have c2' : ¬ (3000 : Int) < (ys.length : Int) := by omega
      have e : decide (3000 < xs.length ∨ 3000 < ys.length) = false := decide_eq_false (by omega)
      rw [e]
      refine AC.of_run mo Tryd.func5 Tryd.call5 ⟨rfl, Tryd.ntmps5, Tryd.results5, by kernel_rfl⟩ rfl ?_
      repeat' (first | simp only [go_sem, ↓reduceIte, Nat.reduceEqDiff, Nat.reduceAdd, Nat.reduceMul, Nat.reduceSub, Nat.reduceLeDiff, Nat.reduceLT, Nat.reduceBEq, Nat.reduceBNe, Int.reduceLT, Int.reduceLE, Int.reduceEq, Int.reduceNeg, Int.reduceToNat, Int.toNat_natCast, Int.natCast_nonneg, List.length_append, List.length_map, List.length_replicate, Bool.and_eq_true, decide_eq_true_eq, List.length_take, List.length_drop, Int.reduceSub, Int.reduceAdd, Int.reduceMul, Int.sub_zero, Int.add_zero, Int.zero_add, reduceCtorEq, decide_true, decide_false, Bool.false_eq_true, List.reduceReplicate, *] | simp (disch := omega) only [wrap_i64, wrap_u8, Int.tdiv_eq_ediv_of_nonneg, Int.tmod_eq_emod_of_nonneg, if_pos] | refine callP_x ?_ | (refine ret_gen (by first | exact .inr rfl | exact .inl rfl) (rfl) ?_) | (refine guardP_split (fun _ => ?_) (fun _ => ?_)) | (refine condP_split (fun _ => ?_) (fun _ => ?_)) | (refine guardP_splitB (fun _ => ?_) (fun _ => ?_)) | (refine condP_splitB (fun _ => ?_) (fun _ => ?_)))
def a2V (cs : List UInt8) (at' n : Int) : Int :=
  if at' < cs.length then (if at' + 1 < cs.length then 256 * ((byteAt cs at'.toNat).toNat : Int) + ((byteAt cs (at' + 1).toNat).toNat : Int) else ((byteAt cs at'.toNat).toNat : Int)) % n else 0
theorem a2V_in (cs : List UInt8) (at' : Int) {n : Int} (hn : 1 ≤ n) : 0 ≤ a2V cs at' n ∧ a2V cs at' n < n := by
  unfold a2V
  split
  · exact ⟨Int.emod_nonneg _ (by omega), Int.emod_lt_of_pos _ (by omega)⟩
  · omega
theorem a2Byte_ac (cs : List UInt8) (hc : cs.length ≤ 1048576) (at' n : Int) (h0 : 0 ≤ at' ∧ at' ≤ 1000000) (hn : 1 ≤ n ∧ n ≤ 1048576) : AC Tryd.prog 9 [.lst (bytesA cs), .int .i64 at', .int .i64 n] (.int .i64 (a2V cs at' n)) := by
  have hl := bytesA_len cs
  have hn1 : ¬ n < 1 := by omega
  have hn0 : ¬ n = 0 := by omega
  unfold a2V
  by_cases c1 : at' < cs.length
  · have c1' : ¬ (cs.length : Int) ≤ at' := by omega
    have g1 := byte_get (cs := cs) (n := at'.toNat) (by omega)
    have u1 := (byteAt cs at'.toNat).toNat_lt
    rw [if_pos c1]
    by_cases c2 : at' + 1 < cs.length
    · have g2 := byte_get (cs := cs) (n := (at' + 1).toNat) (by omega)
      have u2 := (byteAt cs (at' + 1).toNat).toNat_lt
      rw [if_pos c2]
      refine AC.of_run mo Tryd.func9 Tryd.call9 ⟨rfl, Tryd.ntmps9, Tryd.results9, by kernel_rfl⟩ rfl ?_
      repeat' (first | simp only [go_sem, ↓reduceIte, Nat.reduceEqDiff, Nat.reduceAdd, Nat.reduceMul, Nat.reduceSub, Nat.reduceLeDiff, Nat.reduceLT, Nat.reduceBEq, Nat.reduceBNe, Int.reduceLT, Int.reduceLE, Int.reduceEq, Int.reduceNeg, Int.reduceToNat, Int.toNat_natCast, Int.natCast_nonneg, List.length_append, List.length_map, List.length_replicate, Bool.and_eq_true, decide_eq_true_eq, List.length_take, List.length_drop, Int.reduceSub, Int.reduceAdd, Int.reduceMul, Int.sub_zero, Int.add_zero, Int.zero_add, reduceCtorEq, decide_true, decide_false, Bool.false_eq_true, List.reduceReplicate, *] | simp (disch := omega) only [wrap_i64, wrap_u8, Int.tdiv_eq_ediv_of_nonneg, Int.tmod_eq_emod_of_nonneg, if_pos] | refine callP_x ?_ | (refine ret_gen (by first | exact .inr rfl | exact .inl rfl) (rfl) ?_) | (refine guardP_split (fun _ => ?_) (fun _ => ?_)) | (refine condP_split (fun _ => ?_) (fun _ => ?_)) | (refine guardP_splitB (fun _ => ?_) (fun _ => ?_)) | (refine condP_splitB (fun _ => ?_) (fun _ => ?_)))
      all_goals omega
    · rw [if_neg c2]
      refine AC.of_run mo Tryd.func9 Tryd.call9 ⟨rfl, Tryd.ntmps9, Tryd.results9, by kernel_rfl⟩ rfl ?_
      repeat' (first | simp only [go_sem, ↓reduceIte, Nat.reduceEqDiff, Nat.reduceAdd, Nat.reduceMul, Nat.reduceSub, Nat.reduceLeDiff, Nat.reduceLT, Nat.reduceBEq, Nat.reduceBNe, Int.reduceLT, Int.reduceLE, Int.reduceEq, Int.reduceNeg, Int.reduceToNat, Int.toNat_natCast, Int.natCast_nonneg, List.length_append, List.length_map, List.length_replicate, Bool.and_eq_true, decide_eq_true_eq, List.length_take, List.length_drop, Int.reduceSub, Int.reduceAdd, Int.reduceMul, Int.sub_zero, Int.add_zero, Int.zero_add, reduceCtorEq, decide_true, decide_false, Bool.false_eq_true, List.reduceReplicate, *] | simp (disch := omega) only [wrap_i64, wrap_u8, Int.tdiv_eq_ediv_of_nonneg, Int.tmod_eq_emod_of_nonneg, if_pos] | refine callP_x ?_ | (refine ret_gen (by first | exact .inr rfl | exact .inl rfl) (rfl) ?_) | (refine guardP_split (fun _ => ?_) (fun _ => ?_)) | (refine condP_split (fun _ => ?_) (fun _ => ?_)) | (refine guardP_splitB (fun _ => ?_) (fun _ => ?_)) | (refine condP_splitB (fun _ => ?_) (fun _ => ?_)))
      all_goals omega
  · have c1' : (cs.length : Int) ≤ at' := by omega
    rw [if_neg c1]
    refine AC.of_run mo Tryd.func9 Tryd.call9 ⟨rfl, Tryd.ntmps9, Tryd.results9, by kernel_rfl⟩ rfl ?_
    repeat' (first | simp only [go_sem, ↓reduceIte, Nat.reduceEqDiff, Nat.reduceAdd, Nat.reduceMul, Nat.reduceSub, Nat.reduceLeDiff, Nat.reduceLT, Nat.reduceBEq, Nat.reduceBNe, Int.reduceLT, Int.reduceLE, Int.reduceEq, Int.reduceNeg, Int.reduceToNat, Int.toNat_natCast, Int.natCast_nonneg, List.length_append, List.length_map, List.length_replicate, Bool.and_eq_true, decide_eq_true_eq, List.length_take, List.length_drop, Int.reduceSub, Int.reduceAdd, Int.reduceMul, Int.sub_zero, Int.add_zero, Int.zero_add, reduceCtorEq, decide_true, decide_false, Bool.false_eq_true, List.reduceReplicate, *] | simp (disch := omega) only [wrap_i64, wrap_u8, Int.tdiv_eq_ediv_of_nonneg, Int.tmod_eq_emod_of_nonneg, if_pos] | refine callP_x ?_ | (refine ret_gen (by first | exact .inr rfl | exact .inl rfl) (rfl) ?_) | (refine guardP_split (fun _ => ?_) (fun _ => ?_)) | (refine condP_split (fun _ => ?_) (fun _ => ?_)) | (refine guardP_splitB (fun _ => ?_) (fun _ => ?_)) | (refine condP_splitB (fun _ => ?_) (fun _ => ?_)))
    all_goals omega
theorem bankOf_ac (t : List UInt8) (m : Int) (p : List UInt8) (k : Int) (h : cartOk t m p) (hk : 0 ≤ k) : AC Tryd.prog 14 [.agg [.str t, .int .i64 m, .str p], .int .i64 k] (if k < (p.length : Int) / 64 then .tup [.str (bankOf p k), .int .i64 0] else .tup [.str [], .int .i64 2]) := by
  have hp : p.length ≤ 1048576 := by have := h.2.2.1; have := h.2.2.2.1; omega
  have h1 := h.2.2.1
  have h2 := h.2.2.2.1
  have hv := iValidCart_ac t m p hp
  rw [decide_eq_true h] at hv
  have hb := banks_ac t m p hp
  have hw := within_ac k 0 ((p.length : Int) / 64 - 1)
  clear h
  by_cases c : k < (p.length : Int) / 64
  · have hbk := bank_ac t m p k hp (by omega)
    have e : (0 ≤ k ∧ k ≤ (p.length : Int) / 64 - 1) := by omega
    rw [if_pos c]
    rw [decide_eq_true e] at hw
    refine AC.of_run mo Tryd.func14 Tryd.call14 ⟨rfl, Tryd.ntmps14, Tryd.results14, by kernel_rfl⟩ rfl ?_
    repeat' (first | simp only [go_sem, ↓reduceIte, Nat.reduceEqDiff, Nat.reduceAdd, Nat.reduceMul, Nat.reduceSub, Nat.reduceLeDiff, Nat.reduceLT, Nat.reduceBEq, Nat.reduceBNe, Int.reduceLT, Int.reduceLE, Int.reduceEq, Int.reduceNeg, Int.reduceToNat, Int.toNat_natCast, Int.natCast_nonneg, List.length_append, List.length_map, List.length_replicate, Bool.and_eq_true, decide_eq_true_eq, List.length_take, List.length_drop, Int.reduceSub, Int.reduceAdd, Int.reduceMul, Int.sub_zero, Int.add_zero, Int.zero_add, reduceCtorEq, decide_true, decide_false, Bool.false_eq_true, List.reduceReplicate, *] | simp (disch := omega) only [wrap_i64, wrap_u8, Int.tdiv_eq_ediv_of_nonneg, Int.tmod_eq_emod_of_nonneg, if_pos] | (refine callP_0 (hv ..) (rfl) (rfl) ?_) | (refine callP_0 (hb ..) (rfl) (rfl) ?_) | (refine callP_0 (hw ..) (rfl) (rfl) ?_) | (refine callP_0 (hbk ..) (rfl) (rfl) ?_) | (refine callX_ac (hv ..) (rfl) (rfl) ?_) | (refine callX_ac (hb ..) (rfl) (rfl) ?_) | (refine callX_ac (hw ..) (rfl) (rfl) ?_) | (refine callX_ac (hbk ..) (rfl) (rfl) ?_) | refine callP_x ?_ | (refine ret_gen (by first | exact .inr rfl | exact .inl rfl) (rfl) ?_) | (refine guardP_split (fun _ => ?_) (fun _ => ?_)) | (refine condP_split (fun _ => ?_) (fun _ => ?_)) | (refine guardP_splitB (fun _ => ?_) (fun _ => ?_)) | (refine condP_splitB (fun _ => ?_) (fun _ => ?_)))
    all_goals omega
  · have e : ¬ (0 ≤ k ∧ k ≤ (p.length : Int) / 64 - 1) := by omega
    rw [if_neg c]
    rw [decide_eq_false e] at hw
    refine AC.of_run mo Tryd.func14 Tryd.call14 ⟨rfl, Tryd.ntmps14, Tryd.results14, by kernel_rfl⟩ rfl ?_
    repeat' (first | simp only [go_sem, ↓reduceIte, Nat.reduceEqDiff, Nat.reduceAdd, Nat.reduceMul, Nat.reduceSub, Nat.reduceLeDiff, Nat.reduceLT, Nat.reduceBEq, Nat.reduceBNe, Int.reduceLT, Int.reduceLE, Int.reduceEq, Int.reduceNeg, Int.reduceToNat, Int.toNat_natCast, Int.natCast_nonneg, List.length_append, List.length_map, List.length_replicate, Bool.and_eq_true, decide_eq_true_eq, List.length_take, List.length_drop, Int.reduceSub, Int.reduceAdd, Int.reduceMul, Int.sub_zero, Int.add_zero, Int.zero_add, reduceCtorEq, decide_true, decide_false, Bool.false_eq_true, List.reduceReplicate, *] | simp (disch := omega) only [wrap_i64, wrap_u8, Int.tdiv_eq_ediv_of_nonneg, Int.tmod_eq_emod_of_nonneg, if_pos] | (refine callP_0 (hv ..) (rfl) (rfl) ?_) | (refine callP_0 (hb ..) (rfl) (rfl) ?_) | (refine callP_0 (hw ..) (rfl) (rfl) ?_) | (refine callX_ac (hv ..) (rfl) (rfl) ?_) | (refine callX_ac (hb ..) (rfl) (rfl) ?_) | (refine callX_ac (hw ..) (rfl) (rfl) ?_) | refine callP_x ?_ | (refine ret_gen (by first | exact .inr rfl | exact .inl rfl) (rfl) ?_) | (refine guardP_split (fun _ => ?_) (fun _ => ?_)) | (refine condP_split (fun _ => ?_) (fun _ => ?_)) | (refine guardP_splitB (fun _ => ?_) (fun _ => ?_)) | (refine condP_splitB (fun _ => ?_) (fun _ => ?_)))
    all_goals omega
end Go.Ab
