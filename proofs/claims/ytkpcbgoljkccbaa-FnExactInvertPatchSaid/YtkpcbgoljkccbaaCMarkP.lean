/- The contracts of the functions that mark patches. Conditions: none. -/
import Derived.Test.YtkpcbgoljkccbaaCMark
import Derived.Test.YtkpcbgoljkccbaaTPatch
namespace Go.Ab
open Go.RowKit Go.Proofs
set_option maxRecDepth 10000
set_option maxHeartbeats 4000000
set_option linter.unusedSimpArgs false
set_option linter.unusedVariables false
attribute [local go_sem] hunkV_eq
def hm (k i : Nat) : HunkD := ⟨((k + 3 * i : Nat) : Int), mtxt (k + 3 * i + 1), mtxt (k + 3 * i + 2)⟩
def hms (k n : Nat) : List HunkD := (List.range n).map (hm k)
theorem hms_succ (k n : Nat) : hms k (n + 1) = hms k n ++ [hm k n] := by simp [hms, List.range_succ]
theorem hms_len (k n : Nat) : (hms k n).length = n := by simp [hms]
theorem hms_get {k n i : Nat} (h : i < n) : ((hms k n).map hunkV)[i]? = some (hunkV (hm k i)) := by simp [hms, h]
theorem mid_get {A R : List AV} {i : Nat} (h : A.length = i) (x : AV) : (A ++ x :: R)[i]? = some x := by subst h; simp
theorem mid_set {A R : List AV} {i : Nat} (h : A.length = i) (x y : AV) : (A ++ x :: R).set i y = A ++ y :: R := by subst h; rw [List.set_append_right _ _ (by omega)]; simp
theorem heldHunkS_ac (k n : Nat) (hk : 0 < k) (hn : k + 3 * n ≤ 1073741824) : AC Try.prog 82 [.lst ((hms k n).map hunkV), .int .i64 (k : Int)] (.int .i64 ((k + 3 * n : Nat) : Int)) := by
  have hl := hms_len k n
  refine AC.of_run mo Try.func82 Try.call82 ⟨rfl, Try.ntmps82, Try.results82, by kernel_rfl⟩ rfl ?_
  repeat' (first | simp only [go_sem, ↓reduceIte, Nat.reduceEqDiff, Nat.reduceAdd, Nat.reduceMul, Nat.reduceSub, Nat.reduceLeDiff, Nat.reduceLT, Nat.reduceBEq, Nat.reduceBNe, Int.reduceLT, Int.reduceLE, Int.reduceEq, Int.reduceNeg, Int.reduceToNat, Int.toNat_natCast, Int.natCast_nonneg, List.length_append, List.length_map, List.length_replicate, Bool.and_eq_true, decide_eq_true_eq, List.length_take, List.length_drop, Int.reduceSub, Int.reduceAdd, Int.reduceMul, Int.sub_zero, Int.add_zero, Int.zero_add, reduceCtorEq, decide_true, decide_false, Bool.false_eq_true, List.reduceReplicate, *] | simp (disch := omega) only [wrap_i64, wrap_u8, Int.tdiv_eq_ediv_of_nonneg, Int.tmod_eq_emod_of_nonneg, if_pos] | refine callP_x ?_ | (refine ret_gen (by first | exact .inr rfl | exact .inl rfl) (rfl) ?_) | (refine guardP_split (fun _ => ?_) (fun _ => ?_)) | (refine condP_split (fun _ => ?_) (fun _ => ?_)) | (refine guardP_splitB (fun _ => ?_) (fun _ => ?_)) | (refine condP_splitB (fun _ => ?_) (fun _ => ?_)))
  refine sx_loop (fun m s => ∃ i, i ≤ n ∧ m = n - i ∧ s.τ 0 = .lst ((hms k n).map hunkV) ∧ s.τ 1 = .int .i64 ((k + 3 * i : Nat) : Int) ∧ s.τ 5 = .int .i64 (i : Int)) n ⟨0, by simp [go_sem]⟩ ?_
  rintro m s ⟨i, hi, rfl, h0, h1, h5⟩
  simp only [go_sem, ↓reduceIte, Nat.reduceEqDiff, Nat.reduceAdd, Nat.reduceMul, Nat.reduceSub, Nat.reduceLeDiff, Nat.reduceLT, Nat.reduceBEq, Nat.reduceBNe, Int.reduceLT, Int.reduceLE, Int.reduceEq, Int.reduceNeg, Int.reduceToNat, Int.toNat_natCast, Int.natCast_nonneg, List.length_append, List.length_map, List.length_replicate, Bool.and_eq_true, decide_eq_true_eq, List.length_take, List.length_drop, Int.reduceSub, Int.reduceAdd, Int.reduceMul, Int.sub_zero, Int.add_zero, Int.zero_add, reduceCtorEq, decide_true, decide_false, Bool.false_eq_true, List.reduceReplicate, h0, h1, h5, hl]
  refine condP_split (fun h => ?_) (fun h => ?_)
  · have hlt : i < n := by omega
    have hg := hms_get (k := k) hlt
    have he : hunkV (hm k i) = .agg [.int .i64 ((k + 3 * i : Nat) : Int), .str (mtxt (k + 3 * i + 1)), .str (mtxt (k + 3 * i + 2))] := rfl
    rw [he] at hg
    have hc1 := markText_ac (k + 3 * i + 1) (by omega) (by omega)
    have hc2 := markText_ac (k + 3 * i + 2) (by omega) (by omega)
    rw [show ((k + 3 * i + 1 : Nat) : Int) = ((k + 3 * i : Nat) : Int) + 1 by omega] at hc1
    rw [show ((k + 3 * i + 2 : Nat) : Int) = ((k + 3 * i : Nat) : Int) + 1 + 1 by omega] at hc2
    repeat' (first | simp only [go_sem, ↓reduceIte, Nat.reduceEqDiff, Nat.reduceAdd, Nat.reduceMul, Nat.reduceSub, Nat.reduceLeDiff, Nat.reduceLT, Nat.reduceBEq, Nat.reduceBNe, Int.reduceLT, Int.reduceLE, Int.reduceEq, Int.reduceNeg, Int.reduceToNat, Int.toNat_natCast, Int.natCast_nonneg, List.length_append, List.length_map, List.length_replicate, Bool.and_eq_true, decide_eq_true_eq, List.length_take, List.length_drop, Int.reduceSub, Int.reduceAdd, Int.reduceMul, Int.sub_zero, Int.add_zero, Int.zero_add, reduceCtorEq, decide_true, decide_false, Bool.false_eq_true, List.reduceReplicate, *] | simp (disch := omega) only [wrap_i64, wrap_u8, Int.tdiv_eq_ediv_of_nonneg, Int.tmod_eq_emod_of_nonneg, if_pos] | (refine callP_0 (hc1 ..) (rfl) (rfl) ?_) | (refine callP_0 (hc2 ..) (rfl) (rfl) ?_) | (refine callX_ac (hc1 ..) (rfl) (rfl) ?_) | (refine callX_ac (hc2 ..) (rfl) (rfl) ?_) | refine callP_x ?_ | (refine ret_gen (by first | exact .inr rfl | exact .inl rfl) (rfl) ?_) | (refine guardP_split (fun _ => ?_) (fun _ => ?_)) | (refine condP_split (fun _ => ?_) (fun _ => ?_)) | (refine guardP_splitB (fun _ => ?_) (fun _ => ?_)) | (refine condP_splitB (fun _ => ?_) (fun _ => ?_)))
    exact ⟨n - (i + 1), by omega, i + 1, by omega, rfl, congrArg _ (by omega), by simp only [Int.natCast_add, Int.cast_ofNat_Int]⟩
  · have e : i = n := by omega
    subst e
    repeat' (first | simp only [go_sem, ↓reduceIte, Nat.reduceEqDiff, Nat.reduceAdd, Nat.reduceMul, Nat.reduceSub, Nat.reduceLeDiff, Nat.reduceLT, Nat.reduceBEq, Nat.reduceBNe, Int.reduceLT, Int.reduceLE, Int.reduceEq, Int.reduceNeg, Int.reduceToNat, Int.toNat_natCast, Int.natCast_nonneg, List.length_append, List.length_map, List.length_replicate, Bool.and_eq_true, decide_eq_true_eq, List.length_take, List.length_drop, Int.reduceSub, Int.reduceAdd, Int.reduceMul, Int.sub_zero, Int.add_zero, Int.zero_add, reduceCtorEq, decide_true, decide_false, Bool.false_eq_true, List.reduceReplicate, *] | simp (disch := omega) only [wrap_i64, wrap_u8, Int.tdiv_eq_ediv_of_nonneg, Int.tmod_eq_emod_of_nonneg, if_pos] | refine callP_x ?_ | (refine ret_gen (by first | exact .inr rfl | exact .inl rfl) (rfl) ?_) | (refine guardP_split (fun _ => ?_) (fun _ => ?_)) | (refine condP_split (fun _ => ?_) (fun _ => ?_)) | (refine guardP_splitB (fun _ => ?_) (fun _ => ?_)) | (refine condP_splitB (fun _ => ?_) (fun _ => ?_)))
theorem markHunkS_aw (k n id g : Nat) (H : Heap) (xs : List HunkD) (hk : 0 < k) (hn : k + 3 * n ≤ 1073741824) (hl : xs.length = n) (hH : H id = some ⟨3, xs.map hunkV, g, true⟩) :
    AW Try.prog 81 [.ref id g 0 n, .int .i64 (k : Int)] H (.int .i64 ((k + 3 * n : Nat) : Int)) (upd H id (some ⟨3, (hms k n).map hunkV, g, true⟩)) := by
  refine AW.of_run 900000 mo Try.func81 Try.call81 ⟨rfl, Try.ntmps81, Try.results81, by kernel_rfl⟩ rfl ?_
  repeat' (first | simp only [go_sem, ↓reduceIte, Nat.reduceEqDiff, Nat.reduceAdd, Nat.reduceMul, Nat.reduceSub, Nat.reduceLeDiff, Nat.reduceLT, Nat.reduceBEq, Nat.reduceBNe, Int.reduceLT, Int.reduceLE, Int.reduceEq, Int.reduceNeg, Int.reduceToNat, Int.toNat_natCast, Int.natCast_nonneg, List.length_append, List.length_map, List.length_replicate, Bool.and_eq_true, decide_eq_true_eq, List.length_take, List.length_drop, Int.reduceSub, Int.reduceAdd, Int.reduceMul, Int.sub_zero, Int.add_zero, Int.zero_add, reduceCtorEq, decide_true, decide_false, Bool.false_eq_true, List.reduceReplicate, *] | simp (disch := omega) only [wrap_i64, wrap_u8, Int.tdiv_eq_ediv_of_nonneg, Int.tmod_eq_emod_of_nonneg, if_pos] | refine callP_x ?_ | (refine ret_gen (by first | exact .inr rfl | exact .inl rfl) (rfl) ?_) | (refine guardP_split (fun _ => ?_) (fun _ => ?_)) | (refine condP_split (fun _ => ?_) (fun _ => ?_)) | (refine guardP_splitB (fun _ => ?_) (fun _ => ?_)) | (refine condP_splitB (fun _ => ?_) (fun _ => ?_)))
  refine sx_loop (fun m s => ∃ i, i ≤ n ∧ m = n - i ∧ s.τ 0 = .ref id g 0 n ∧ s.τ 1 = .int .i64 ((k + 3 * i : Nat) : Int) ∧ s.τ 5 = .int .i64 (i : Int) ∧ s.H = upd H id (some ⟨3, (hms k i).map hunkV ++ (xs.map hunkV).drop i, g, true⟩)) n ⟨0, by omega, by omega, by simp [go_sem], by simp [go_sem], by simp [go_sem], ?_⟩ ?_
  · funext j; simp only [upd]; split
    · rename_i e; subst e; simp [hH, hms]
    · rfl
  rintro m s ⟨i, hi, rfl, h0, h1, h5, hS⟩
  have hnn : i + (n - i) = n := by omega
  have hlk := hms_len k i
  simp only [go_sem, ↓reduceIte, Nat.reduceEqDiff, Nat.reduceAdd, Nat.reduceMul, Nat.reduceSub, Nat.reduceLeDiff, Nat.reduceLT, Nat.reduceBEq, Nat.reduceBNe, Int.reduceLT, Int.reduceLE, Int.reduceEq, Int.reduceNeg, Int.reduceToNat, Int.toNat_natCast, Int.natCast_nonneg, List.length_append, List.length_map, List.length_replicate, Bool.and_eq_true, decide_eq_true_eq, List.length_take, List.length_drop, Int.reduceSub, Int.reduceAdd, Int.reduceMul, Int.sub_zero, Int.add_zero, Int.zero_add, reduceCtorEq, decide_true, decide_false, Bool.false_eq_true, List.reduceReplicate, hlk, hnn, hl, h0, h1, h5, hS]
  refine condP_split (fun h => ?_) (fun h => ?_)
  · have hlt : i < n := by omega
    have hdr : (xs.map hunkV).drop i = hunkV xs[i] :: (xs.map hunkV).drop (i + 1) := by
      rw [List.drop_eq_getElem_cons (by simp; omega)]; simp
    rw [hdr] at hS ⊢
    have hA : ((hms k i).map hunkV).length = i := by simp [hlk]
    have hmg := mid_get (R := (xs.map hunkV).drop (i + 1)) hA
    have hms' := mid_set (R := (xs.map hunkV).drop (i + 1)) hA
    have hn2 : i + (n - (i + 1) + 1) = n := by omega
    have hc1 := markText_ac (k + 3 * i + 1) (by omega) (by omega)
    have hc2 := markText_ac (k + 3 * i + 2) (by omega) (by omega)
    rw [show ((k + 3 * i + 1 : Nat) : Int) = ((k + 3 * i : Nat) : Int) + 1 by omega] at hc1
    rw [show ((k + 3 * i + 2 : Nat) : Int) = ((k + 3 * i : Nat) : Int) + 1 + 1 by omega] at hc2
    clear hdr
    repeat' (first | simp only [go_sem, ↓reduceIte, Nat.reduceEqDiff, Nat.reduceAdd, Nat.reduceMul, Nat.reduceSub, Nat.reduceLeDiff, Nat.reduceLT, Nat.reduceBEq, Nat.reduceBNe, Int.reduceLT, Int.reduceLE, Int.reduceEq, Int.reduceNeg, Int.reduceToNat, Int.toNat_natCast, Int.natCast_nonneg, List.length_append, List.length_map, List.length_replicate, Bool.and_eq_true, decide_eq_true_eq, List.length_take, List.length_drop, Int.reduceSub, Int.reduceAdd, Int.reduceMul, Int.sub_zero, Int.add_zero, Int.zero_add, reduceCtorEq, decide_true, decide_false, Bool.false_eq_true, List.reduceReplicate, *] | simp (disch := omega) only [wrap_i64, wrap_u8, Int.tdiv_eq_ediv_of_nonneg, Int.tmod_eq_emod_of_nonneg, if_pos] | (refine callP_0 (hc1 ..) (rfl) (rfl) ?_) | (refine callP_0 (hc2 ..) (rfl) (rfl) ?_) | (refine callX_ac (hc1 ..) (rfl) (rfl) ?_) | (refine callX_ac (hc2 ..) (rfl) (rfl) ?_) | refine callP_x ?_ | (refine ret_gen (by first | exact .inr rfl | exact .inl rfl) (rfl) ?_) | (refine guardP_split (fun _ => ?_) (fun _ => ?_)) | (refine condP_split (fun _ => ?_) (fun _ => ?_)) | (refine guardP_splitB (fun _ => ?_) (fun _ => ?_)) | (refine condP_splitB (fun _ => ?_) (fun _ => ?_)))
    refine ⟨n - (i + 1), by omega, i + 1, by omega, rfl, congrArg _ (by omega), by simp only [Int.natCast_add, Int.cast_ofNat_Int], ?_⟩
    rw [hms_succ, List.map_append, List.append_assoc]
    rfl
  · have e : i = n := by omega
    subst e
    repeat' (first | simp only [go_sem, ↓reduceIte, Nat.reduceEqDiff, Nat.reduceAdd, Nat.reduceMul, Nat.reduceSub, Nat.reduceLeDiff, Nat.reduceLT, Nat.reduceBEq, Nat.reduceBNe, Int.reduceLT, Int.reduceLE, Int.reduceEq, Int.reduceNeg, Int.reduceToNat, Int.toNat_natCast, Int.natCast_nonneg, List.length_append, List.length_map, List.length_replicate, Bool.and_eq_true, decide_eq_true_eq, List.length_take, List.length_drop, Int.reduceSub, Int.reduceAdd, Int.reduceMul, Int.sub_zero, Int.add_zero, Int.zero_add, reduceCtorEq, decide_true, decide_false, Bool.false_eq_true, List.reduceReplicate, *] | simp (disch := omega) only [wrap_i64, wrap_u8, Int.tdiv_eq_ediv_of_nonneg, Int.tmod_eq_emod_of_nonneg, if_pos] | refine callP_x ?_ | (refine ret_gen (by first | exact .inr rfl | exact .inl rfl) (rfl) ?_) | (refine guardP_split (fun _ => ?_) (fun _ => ?_)) | (refine condP_split (fun _ => ?_) (fun _ => ?_)) | (refine guardP_splitB (fun _ => ?_) (fun _ => ?_)) | (refine condP_splitB (fun _ => ?_) (fun _ => ?_)))
    refine retW_1 (.inr rfl) (by simp only [go_sem, ↓reduceIte, Nat.reduceEqDiff, Nat.reduceAdd, Nat.reduceMul, Nat.reduceSub, Nat.reduceLeDiff, Nat.reduceLT, Nat.reduceBEq, Nat.reduceBNe, Int.reduceLT, Int.reduceLE, Int.reduceEq, Int.reduceNeg, Int.reduceToNat, Int.toNat_natCast, Int.natCast_nonneg, List.length_append, List.length_map, List.length_replicate, Bool.and_eq_true, decide_eq_true_eq, List.length_take, List.length_drop, Int.reduceSub, Int.reduceAdd, Int.reduceMul, Int.sub_zero, Int.add_zero, Int.zero_add, reduceCtorEq, decide_true, decide_false, Bool.false_eq_true, List.reduceReplicate]) ?_
    simp only [List.drop_of_length_le, List.length_map, hl, Nat.le_refl, List.append_nil]
theorem heldPatch_ac (a b c d : Int) (k n : Nat) (hk : 0 < k) (hn : k + 3 * n ≤ 1073741824) : AC Try.prog 46 [.agg [.int .i64 a, .int .i64 b, .int .i64 c, .int .i64 d, .lst ((hms k n).map hunkV)], .int .i64 (k : Int)] (.int .i64 ((k + 3 * n : Nat) : Int)) := by
  have hc := heldHunkS_ac k n hk hn
  refine AC.of_run mo Try.func46 Try.call46 ⟨rfl, Try.ntmps46, Try.results46, by kernel_rfl⟩ rfl ?_
  repeat' (first | simp only [go_sem, ↓reduceIte, Nat.reduceEqDiff, Nat.reduceAdd, Nat.reduceMul, Nat.reduceSub, Nat.reduceLeDiff, Nat.reduceLT, Nat.reduceBEq, Nat.reduceBNe, Int.reduceLT, Int.reduceLE, Int.reduceEq, Int.reduceNeg, Int.reduceToNat, Int.toNat_natCast, Int.natCast_nonneg, List.length_append, List.length_map, List.length_replicate, Bool.and_eq_true, decide_eq_true_eq, List.length_take, List.length_drop, Int.reduceSub, Int.reduceAdd, Int.reduceMul, Int.sub_zero, Int.add_zero, Int.zero_add, reduceCtorEq, decide_true, decide_false, Bool.false_eq_true, List.reduceReplicate, *] | simp (disch := omega) only [wrap_i64, wrap_u8, Int.tdiv_eq_ediv_of_nonneg, Int.tmod_eq_emod_of_nonneg, if_pos] | (refine callP_0 (hc ..) (rfl) (rfl) ?_) | (refine callX_ac (hc ..) (rfl) (rfl) ?_) | refine callP_x ?_ | (refine ret_gen (by first | exact .inr rfl | exact .inl rfl) (rfl) ?_) | (refine guardP_split (fun _ => ?_) (fun _ => ?_)) | (refine condP_split (fun _ => ?_) (fun _ => ?_)) | (refine guardP_splitB (fun _ => ?_) (fun _ => ?_)) | (refine condP_splitB (fun _ => ?_) (fun _ => ?_)))
  all_goals omega
theorem markPatch_aw (a b c d : Int) (k n id g : Nat) (H : Heap) (xs : List HunkD) (hk : 0 < k) (hn : k + 3 * n ≤ 1073741824) (hl : xs.length = n) (hH : H id = some ⟨3, xs.map hunkV, g, true⟩) (hid : id ≠ 900000) :
    AW Try.prog 45 [.agg [.int .i64 a, .int .i64 b, .int .i64 c, .int .i64 d, .ref id g 0 n], .int .i64 (k : Int)] H (.int .i64 ((k + 3 * n : Nat) : Int))
      (upd (upd H 900000 (some ⟨5, [.agg [.int .i64 a, .int .i64 b, .int .i64 c, .int .i64 d, .ref id g 0 n]], ngenB (H 900000), true⟩)) id (some ⟨3, (hms k n).map hunkV, g, true⟩)) := by
  refine AW.of_run 900000 mo Try.func45 Try.call45 ⟨rfl, Try.ntmps45, Try.results45, by kernel_rfl⟩ rfl ?_
  have hm := markHunkS_aw k n id g (upd H 900000 (some ⟨5, [.agg [.int .i64 a, .int .i64 b, .int .i64 c, .int .i64 d, .ref id g 0 n]], ngenB (H 900000), true⟩)) xs hk hn hl (by simp [upd, hid, hH])
  repeat' (first | simp only [go_sem, ↓reduceIte, Nat.reduceEqDiff, Nat.reduceAdd, Nat.reduceMul, Nat.reduceSub, Nat.reduceLeDiff, Nat.reduceLT, Nat.reduceBEq, Nat.reduceBNe, Int.reduceLT, Int.reduceLE, Int.reduceEq, Int.reduceNeg, Int.reduceToNat, Int.toNat_natCast, Int.natCast_nonneg, List.length_append, List.length_map, List.length_replicate, Bool.and_eq_true, decide_eq_true_eq, List.length_take, List.length_drop, Int.reduceSub, Int.reduceAdd, Int.reduceMul, Int.sub_zero, Int.add_zero, Int.zero_add, reduceCtorEq, decide_true, decide_false, Bool.false_eq_true, List.reduceReplicate, *] | simp (disch := omega) only [wrap_i64, wrap_u8, Int.tdiv_eq_ediv_of_nonneg, Int.tmod_eq_emod_of_nonneg, if_pos] | (refine callP_aw (hm) ?_) | refine callP_x ?_ | (refine ret_gen (by first | exact .inr rfl | exact .inl rfl) (rfl) ?_) | (refine guardP_split (fun _ => ?_) (fun _ => ?_)) | (refine condP_split (fun _ => ?_) (fun _ => ?_)) | (refine guardP_splitB (fun _ => ?_) (fun _ => ?_)) | (refine condP_splitB (fun _ => ?_) (fun _ => ?_)))
  exact retW_1 (.inr rfl) (by simp only [go_sem, ↓reduceIte, Nat.reduceEqDiff, Nat.reduceAdd, Nat.reduceMul, Nat.reduceSub, Nat.reduceLeDiff, Nat.reduceLT, Nat.reduceBEq, Nat.reduceBNe, Int.reduceLT, Int.reduceLE, Int.reduceEq, Int.reduceNeg, Int.reduceToNat, Int.toNat_natCast, Int.natCast_nonneg, List.length_append, List.length_map, List.length_replicate, Bool.and_eq_true, decide_eq_true_eq, List.length_take, List.length_drop, Int.reduceSub, Int.reduceAdd, Int.reduceMul, Int.sub_zero, Int.add_zero, Int.zero_add, reduceCtorEq, decide_true, decide_false, Bool.false_eq_true, List.reduceReplicate]) rfl
end Go.Ab
