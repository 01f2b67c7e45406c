/- The contracts of a law's own functions on its types. Conditions: none. -/
import Derived.Test.YthdbfnjekbnbkaaCList
namespace Go.Ab
open Go.RowKit Go.Proofs
set_option maxRecDepth 10000
set_option maxHeartbeats 4000000
set_option linter.unusedSimpArgs false
set_option linter.unusedVariables false
structure HunkD where
  pos : Int
  old : List UInt8
  new : List UInt8
  deriving DecidableEq
def hunkV (x : HunkD) : AV := .agg [.int .i64 x.pos, .str x.old, .str x.new]
theorem hunkV_eq (x : HunkD) : hunkV x = .agg [.int .i64 x.pos, .str x.old, .str x.new] := (rfl)
attribute [local go_sem] hunkV_eq
def okHunk (x : HunkD) : Prop := (x.old.length ≤ maxLen) ∧ (x.new.length ≤ maxLen)
def costHunk (x : HunkD) : Nat := x.old.length + x.new.length
theorem hunk_ext {x y : HunkD} (h0 : x.pos = y.pos) (h1 : x.old = y.old) (h2 : x.new = y.new) : x = y := by cases x; cases y; simp_all
theorem dat_hunk (n : Nat) {cs : List AV} (h : Dat Try.prog (n + 2) 122 cs) : ∃ x : HunkD, cs = [.int .i64 x.pos, .str x.old, .str x.new] ∧ okHunk x := by
  simp only [dat_succ, tk2, tk122, tk9, datK_struct, datK_slice, datK_int, datK_str, datK_bool, datF_cons, datF_nil, datVK_struct, datV_eq, datVK_int, datVK_str, datVK_bool, List.map_cons, List.map_nil] at h
  obtain ⟨c0, r0, rfl, ⟨a0, rfl, _⟩, c1, r1, rfl, ⟨a1, rfl, h1⟩, c2, r2, rfl, ⟨a2, rfl, h2⟩, rfl⟩ := h
  exact ⟨⟨a0, a1, a2⟩, rfl, h1, h2⟩
theorem toHunk_ac (x : HunkD) : AC Try.prog 85 [hunkV x] (hunkV x) := by
  simp only [hunkV_eq]
  refine AC.of_run mo Try.func85 Try.call85 ⟨rfl, Try.ntmps85, Try.results85, by kernel_rfl⟩ rfl ?_
  repeat' (first | simp only [go_sem, ↓reduceIte, Nat.reduceEqDiff, Nat.reduceAdd, Nat.reduceMul, Nat.reduceSub, Nat.reduceLeDiff, Nat.reduceLT, Nat.reduceBEq, Nat.reduceBNe, Int.reduceLT, Int.reduceLE, Int.reduceEq, Int.reduceNeg, Int.reduceToNat, Int.toNat_natCast, Int.natCast_nonneg, List.length_append, List.length_map, List.length_replicate, Bool.and_eq_true, decide_eq_true_eq, List.length_take, List.length_drop, Int.reduceSub, Int.reduceAdd, Int.reduceMul, Int.sub_zero, Int.add_zero, Int.zero_add, reduceCtorEq, decide_true, decide_false, Bool.false_eq_true, List.reduceReplicate, *] | simp (disch := omega) only [wrap_i64, wrap_u8, Int.tdiv_eq_ediv_of_nonneg, Int.tmod_eq_emod_of_nonneg, if_pos] | refine callP_x ?_ | (refine ret_gen (by first | exact .inr rfl | exact .inl rfl) (rfl) ?_) | (refine guardP_split (fun _ => ?_) (fun _ => ?_)) | (refine condP_split (fun _ => ?_) (fun _ => ?_)) | (refine guardP_splitB (fun _ => ?_) (fun _ => ?_)) | (refine condP_splitB (fun _ => ?_) (fun _ => ?_)))
theorem szHunk_ac (x : HunkD) (n : Int) (hok : okHunk x) (hn : 0 ≤ n ∧ n ≤ 1048576) : AC Try.prog 81 [hunkV x, .int .i64 n] (.int .i64 (szR (costHunk x) n)) := by
  unfold okHunk maxLen at hok
  simp only [hunkV_eq]
  refine AC.of_run mo Try.func81 Try.call81 ⟨rfl, Try.ntmps81, Try.results81, by kernel_rfl⟩ rfl ?_
  repeat' (first | simp only [go_sem, ↓reduceIte, Nat.reduceEqDiff, Nat.reduceAdd, Nat.reduceMul, Nat.reduceSub, Nat.reduceLeDiff, Nat.reduceLT, Nat.reduceBEq, Nat.reduceBNe, Int.reduceLT, Int.reduceLE, Int.reduceEq, Int.reduceNeg, Int.reduceToNat, Int.toNat_natCast, Int.natCast_nonneg, List.length_append, List.length_map, List.length_replicate, Bool.and_eq_true, decide_eq_true_eq, List.length_take, List.length_drop, Int.reduceSub, Int.reduceAdd, Int.reduceMul, Int.sub_zero, Int.add_zero, Int.zero_add, reduceCtorEq, decide_true, decide_false, Bool.false_eq_true, List.reduceReplicate, *] | simp (disch := omega) only [wrap_i64, wrap_u8, Int.tdiv_eq_ediv_of_nonneg, Int.tmod_eq_emod_of_nonneg, if_pos] | refine callP_x ?_ | (refine ret_gen (by first | exact .inr rfl | exact .inl rfl) (rfl) ?_) | (refine guardP_split (fun _ => ?_) (fun _ => ?_)) | (refine condP_split (fun _ => ?_) (fun _ => ?_)) | (refine guardP_splitB (fun _ => ?_) (fun _ => ?_)) | (refine condP_splitB (fun _ => ?_) (fun _ => ?_)))
  all_goals grind [szR, costHunk]
theorem eqHunk_ac (x y : HunkD) : AC Try.prog 86 [hunkV x, hunkV y] (.bool (decide (x = y))) := by
  simp only [hunkV_eq]
  refine AC.of_run mo Try.func86 Try.call86 ⟨rfl, Try.ntmps86, Try.results86, by kernel_rfl⟩ rfl ?_
  repeat' (first | simp only [go_sem, ↓reduceIte, Nat.reduceEqDiff, Nat.reduceAdd, Nat.reduceMul, Nat.reduceSub, Nat.reduceLeDiff, Nat.reduceLT, Nat.reduceBEq, Nat.reduceBNe, Int.reduceLT, Int.reduceLE, Int.reduceEq, Int.reduceNeg, Int.reduceToNat, Int.toNat_natCast, Int.natCast_nonneg, List.length_append, List.length_map, List.length_replicate, Bool.and_eq_true, decide_eq_true_eq, List.length_take, List.length_drop, Int.reduceSub, Int.reduceAdd, Int.reduceMul, Int.sub_zero, Int.add_zero, Int.zero_add, reduceCtorEq, decide_true, decide_false, Bool.false_eq_true, List.reduceReplicate, *] | simp (disch := omega) only [wrap_i64, wrap_u8, Int.tdiv_eq_ediv_of_nonneg, Int.tmod_eq_emod_of_nonneg, if_pos] | refine callP_x ?_ | (refine ret_gen (by first | exact .inr rfl | exact .inl rfl) (rfl) ?_) | (refine guardP_split (fun _ => ?_) (fun _ => ?_)) | (refine condP_split (fun _ => ?_) (fun _ => ?_)) | (refine guardP_splitB (fun _ => ?_) (fun _ => ?_)) | (refine condP_splitB (fun _ => ?_) (fun _ => ?_)))
  all_goals first
    | (symm; rw [decide_eq_true_iff]; exact hunk_ext (by first | assumption | simp_all) (by first | assumption | simp_all) (by first | assumption | simp_all))
    | (symm; rw [decide_eq_false_iff_not]; rintro rfl; simp_all)
theorem toHunkS_ac (hs : List HunkD) (hl : hs.length ≤ 1048576) : AC Try.prog 46 [.lst (hs.map hunkV)] (.own 3 (hs.map hunkV)) := by
  refine AC.of_run mo Try.func46 Try.call46 ⟨rfl, Try.ntmps46, Try.results46, by kernel_rfl⟩ rfl ?_
  repeat' (first | simp only [go_sem, ↓reduceIte, Nat.reduceEqDiff, Nat.reduceAdd, Nat.reduceMul, Nat.reduceSub, Nat.reduceLeDiff, Nat.reduceLT, Nat.reduceBEq, Nat.reduceBNe, Int.reduceLT, Int.reduceLE, Int.reduceEq, Int.reduceNeg, Int.reduceToNat, Int.toNat_natCast, Int.natCast_nonneg, List.length_append, List.length_map, List.length_replicate, Bool.and_eq_true, decide_eq_true_eq, List.length_take, List.length_drop, Int.reduceSub, Int.reduceAdd, Int.reduceMul, Int.sub_zero, Int.add_zero, Int.zero_add, reduceCtorEq, decide_true, decide_false, Bool.false_eq_true, List.reduceReplicate, *] | simp (disch := omega) only [wrap_i64, wrap_u8, Int.tdiv_eq_ediv_of_nonneg, Int.tmod_eq_emod_of_nonneg, if_pos] | refine callP_x ?_ | (refine ret_gen (by first | exact .inr rfl | exact .inl rfl) (rfl) ?_) | (refine guardP_split (fun _ => ?_) (fun _ => ?_)) | (refine condP_split (fun _ => ?_) (fun _ => ?_)) | (refine guardP_splitB (fun _ => ?_) (fun _ => ?_)) | (refine condP_splitB (fun _ => ?_) (fun _ => ?_)))
  refine sx_loop (fun m s => ∃ i, i ≤ hs.length ∧ m = hs.length - i ∧ s.τ 0 = .lst (hs.map hunkV) ∧ s.τ 3 = .ref 1002 0 0 hs.length ∧ s.τ 4 = .int .i64 (i : Int) ∧
    s.H 1002 = some ⟨3, (hs.take i).map hunkV ++ List.replicate (hs.length - i) (.agg [.int .i64 0, .str [], .str []]), 0, true⟩) hs.length ⟨0, by simp [go_sem]⟩ ?_
  rintro m s ⟨i, hi, rfl, h0, h3, h4, hH⟩
  simp only [go_sem, ↓reduceIte, Nat.reduceEqDiff, Nat.reduceAdd, Nat.reduceMul, Nat.reduceSub, Nat.reduceLeDiff, Nat.reduceLT, Nat.reduceBEq, Nat.reduceBNe, Int.reduceLT, Int.reduceLE, Int.reduceEq, Int.reduceNeg, Int.reduceToNat, Int.toNat_natCast, Int.natCast_nonneg, List.length_append, List.length_map, List.length_replicate, Bool.and_eq_true, decide_eq_true_eq, List.length_take, List.length_drop, Int.reduceSub, Int.reduceAdd, Int.reduceMul, Int.sub_zero, Int.add_zero, Int.zero_add, reduceCtorEq, decide_true, decide_false, Bool.false_eq_true, List.reduceReplicate, *]
  refine condP_split (fun h => ?_) (fun h => ?_)
  · have hlt : i < hs.length := by omega
    have hg := get_map (f := hunkV) hlt
    have hp := get_part (f := hunkV) (z := .agg [.int .i64 0, .str [], .str []]) hlt
    have hset := set_part (f := hunkV) (z := .agg [.int .i64 0, .str [], .str []]) hlt
    skip
    repeat' (first | simp only [go_sem, ↓reduceIte, Nat.reduceEqDiff, Nat.reduceAdd, Nat.reduceMul, Nat.reduceSub, Nat.reduceLeDiff, Nat.reduceLT, Nat.reduceBEq, Nat.reduceBNe, Int.reduceLT, Int.reduceLE, Int.reduceEq, Int.reduceNeg, Int.reduceToNat, Int.toNat_natCast, Int.natCast_nonneg, List.length_append, List.length_map, List.length_replicate, Bool.and_eq_true, decide_eq_true_eq, List.length_take, List.length_drop, Int.reduceSub, Int.reduceAdd, Int.reduceMul, Int.sub_zero, Int.add_zero, Int.zero_add, reduceCtorEq, decide_true, decide_false, Bool.false_eq_true, List.reduceReplicate, *] | simp (disch := omega) only [wrap_i64, wrap_u8, Int.tdiv_eq_ediv_of_nonneg, Int.tmod_eq_emod_of_nonneg, if_pos] | (refine callP_0 (toHunk_ac ..) (rfl) (rfl) ?_) | (refine callX_ac (toHunk_ac ..) (rfl) (rfl) ?_) | refine callP_x ?_ | (refine ret_gen (by first | exact .inr rfl | exact .inl rfl) (rfl) ?_) | (refine guardP_split (fun _ => ?_) (fun _ => ?_)) | (refine condP_split (fun _ => ?_) (fun _ => ?_)) | (refine guardP_splitB (fun _ => ?_) (fun _ => ?_)) | (refine condP_splitB (fun _ => ?_) (fun _ => ?_)))
    exact ⟨hs.length - (i + 1), by omega, i + 1, by omega, rfl, by simp only [Int.natCast_add, Int.cast_ofNat_Int], by rw [← hset] <;> rfl⟩
  · have e : i = hs.length := by omega
    subst e
    rw [List.take_length, Nat.sub_self, List.replicate_zero, List.append_nil] at hH
    repeat' (first | simp only [go_sem, ↓reduceIte, Nat.reduceEqDiff, Nat.reduceAdd, Nat.reduceMul, Nat.reduceSub, Nat.reduceLeDiff, Nat.reduceLT, Nat.reduceBEq, Nat.reduceBNe, Int.reduceLT, Int.reduceLE, Int.reduceEq, Int.reduceNeg, Int.reduceToNat, Int.toNat_natCast, Int.natCast_nonneg, List.length_append, List.length_map, List.length_replicate, Bool.and_eq_true, decide_eq_true_eq, List.length_take, List.length_drop, Int.reduceSub, Int.reduceAdd, Int.reduceMul, Int.sub_zero, Int.add_zero, Int.zero_add, reduceCtorEq, decide_true, decide_false, Bool.false_eq_true, List.reduceReplicate, *] | simp (disch := omega) only [wrap_i64, wrap_u8, Int.tdiv_eq_ediv_of_nonneg, Int.tmod_eq_emod_of_nonneg, if_pos] | refine callP_x ?_ | (refine ret_gen (by first | exact .inr rfl | exact .inl rfl) (rfl) ?_) | (refine guardP_split (fun _ => ?_) (fun _ => ?_)) | (refine condP_split (fun _ => ?_) (fun _ => ?_)) | (refine guardP_splitB (fun _ => ?_) (fun _ => ?_)) | (refine condP_splitB (fun _ => ?_) (fun _ => ?_)))
    exact own_map hH rfl fun a => rfl
theorem szHunkS_ac (hs : List HunkD) (n : Int) (hl : hs.length ≤ maxLen) (hok : ∀ x ∈ hs, okHunk x) (hn : 0 ≤ n ∧ n ≤ 1048576) : AC Try.prog 43 [.lst (hs.map hunkV), .int .i64 n] (.int .i64 (szR (hs.length + csum costHunk hs) n)) := by
  refine AC.of_run mo Try.func43 Try.call43 ⟨rfl, Try.ntmps43, Try.results43, by kernel_rfl⟩ rfl ?_
  unfold maxLen at hl
  repeat' (first | simp only [go_sem, ↓reduceIte, Nat.reduceEqDiff, Nat.reduceAdd, Nat.reduceMul, Nat.reduceSub, Nat.reduceLeDiff, Nat.reduceLT, Nat.reduceBEq, Nat.reduceBNe, Int.reduceLT, Int.reduceLE, Int.reduceEq, Int.reduceNeg, Int.reduceToNat, Int.toNat_natCast, Int.natCast_nonneg, List.length_append, List.length_map, List.length_replicate, Bool.and_eq_true, decide_eq_true_eq, List.length_take, List.length_drop, Int.reduceSub, Int.reduceAdd, Int.reduceMul, Int.sub_zero, Int.add_zero, Int.zero_add, reduceCtorEq, decide_true, decide_false, Bool.false_eq_true, List.reduceReplicate, *] | simp (disch := omega) only [wrap_i64, wrap_u8, Int.tdiv_eq_ediv_of_nonneg, Int.tmod_eq_emod_of_nonneg, if_pos] | refine callP_x ?_ | (refine ret_gen (by first | exact .inr rfl | exact .inl rfl) (rfl) ?_) | (refine guardP_split (fun _ => ?_) (fun _ => ?_)) | (refine condP_split (fun _ => ?_) (fun _ => ?_)) | (refine guardP_splitB (fun _ => ?_) (fun _ => ?_)) | (refine condP_splitB (fun _ => ?_) (fun _ => ?_)))
  · grind [szR]
  refine sx_loop (fun m s => ∃ i, i ≤ hs.length ∧ m = hs.length - i ∧ s.τ 0 = .lst (hs.map hunkV) ∧ s.τ 1 = .int .i64 (n - hs.length - csum costHunk (hs.take i)) ∧ s.τ 5 = .int .i64 (i : Int) ∧ 0 ≤ n - hs.length - csum costHunk (hs.take i)) hs.length ⟨0, by simp [go_sem, csum] <;> omega⟩ ?_
  rintro m s ⟨i, hi, rfl, h0, h1, h4, hpos⟩
  simp only [go_sem, ↓reduceIte, Nat.reduceEqDiff, Nat.reduceAdd, Nat.reduceMul, Nat.reduceSub, Nat.reduceLeDiff, Nat.reduceLT, Nat.reduceBEq, Nat.reduceBNe, Int.reduceLT, Int.reduceLE, Int.reduceEq, Int.reduceNeg, Int.reduceToNat, Int.toNat_natCast, Int.natCast_nonneg, List.length_append, List.length_map, List.length_replicate, Bool.and_eq_true, decide_eq_true_eq, List.length_take, List.length_drop, Int.reduceSub, Int.reduceAdd, Int.reduceMul, Int.sub_zero, Int.add_zero, Int.zero_add, reduceCtorEq, decide_true, decide_false, Bool.false_eq_true, List.reduceReplicate, h0, h1, h4]
  refine condP_split (fun h => ?_) (fun h => ?_)
  · have hlt : i < hs.length := by omega
    have hg := get_map (f := hunkV) hlt
    have hx := hok _ (List.getElem_mem hlt)
    have hc := csum_succ costHunk hlt
    have hle := csum_le costHunk hs (i + 1)
    repeat' (first | simp only [go_sem, ↓reduceIte, Nat.reduceEqDiff, Nat.reduceAdd, Nat.reduceMul, Nat.reduceSub, Nat.reduceLeDiff, Nat.reduceLT, Nat.reduceBEq, Nat.reduceBNe, Int.reduceLT, Int.reduceLE, Int.reduceEq, Int.reduceNeg, Int.reduceToNat, Int.toNat_natCast, Int.natCast_nonneg, List.length_append, List.length_map, List.length_replicate, Bool.and_eq_true, decide_eq_true_eq, List.length_take, List.length_drop, Int.reduceSub, Int.reduceAdd, Int.reduceMul, Int.sub_zero, Int.add_zero, Int.zero_add, reduceCtorEq, decide_true, decide_false, Bool.false_eq_true, List.reduceReplicate, *] | simp (disch := omega) only [wrap_i64, wrap_u8, Int.tdiv_eq_ediv_of_nonneg, Int.tmod_eq_emod_of_nonneg, if_pos] | (refine callP_0 (szHunk_ac _ _ hx (by omega)) (rfl) (rfl) ?_) | (refine callX_ac (szHunk_ac _ _ hx (by omega)) (rfl) (rfl) ?_) | refine callP_x ?_ | (refine ret_gen (by first | exact .inr rfl | exact .inl rfl) (rfl) ?_) | (refine guardP_split (fun _ => ?_) (fun _ => ?_)) | (refine condP_split (fun _ => ?_) (fun _ => ?_)) | (refine guardP_splitB (fun _ => ?_) (fun _ => ?_)) | (refine condP_splitB (fun _ => ?_) (fun _ => ?_)))
    all_goals first
      | (refine ⟨hs.length - (i + 1), by omega, i + 1, by omega, rfl, ?_⟩; grind [szR])
      | grind [szR]
  · have e : i = hs.length := by omega
    subst e
    rw [List.take_length] at h1 hpos
    repeat' (first | simp only [go_sem, ↓reduceIte, Nat.reduceEqDiff, Nat.reduceAdd, Nat.reduceMul, Nat.reduceSub, Nat.reduceLeDiff, Nat.reduceLT, Nat.reduceBEq, Nat.reduceBNe, Int.reduceLT, Int.reduceLE, Int.reduceEq, Int.reduceNeg, Int.reduceToNat, Int.toNat_natCast, Int.natCast_nonneg, List.length_append, List.length_map, List.length_replicate, Bool.and_eq_true, decide_eq_true_eq, List.length_take, List.length_drop, Int.reduceSub, Int.reduceAdd, Int.reduceMul, Int.sub_zero, Int.add_zero, Int.zero_add, reduceCtorEq, decide_true, decide_false, Bool.false_eq_true, List.reduceReplicate, *] | simp (disch := omega) only [wrap_i64, wrap_u8, Int.tdiv_eq_ediv_of_nonneg, Int.tmod_eq_emod_of_nonneg, if_pos] | refine callP_x ?_ | (refine ret_gen (by first | exact .inr rfl | exact .inl rfl) (rfl) ?_) | (refine guardP_split (fun _ => ?_) (fun _ => ?_)) | (refine condP_split (fun _ => ?_) (fun _ => ?_)) | (refine guardP_splitB (fun _ => ?_) (fun _ => ?_)) | (refine condP_splitB (fun _ => ?_) (fun _ => ?_)))
    grind [szR]
theorem eqHunkS_ac (hs ks : List HunkD) (hb : hs.length ≤ 1048576) : AC Try.prog 48 [.lst (hs.map hunkV), .lst (ks.map hunkV)] (.bool (decide (hs = ks))) := by
  refine AC.of_run mo Try.func48 Try.call48 ⟨rfl, Try.ntmps48, Try.results48, by kernel_rfl⟩ rfl ?_
  repeat' (first | simp only [go_sem, ↓reduceIte, Nat.reduceEqDiff, Nat.reduceAdd, Nat.reduceMul, Nat.reduceSub, Nat.reduceLeDiff, Nat.reduceLT, Nat.reduceBEq, Nat.reduceBNe, Int.reduceLT, Int.reduceLE, Int.reduceEq, Int.reduceNeg, Int.reduceToNat, Int.toNat_natCast, Int.natCast_nonneg, List.length_append, List.length_map, List.length_replicate, Bool.and_eq_true, decide_eq_true_eq, List.length_take, List.length_drop, Int.reduceSub, Int.reduceAdd, Int.reduceMul, Int.sub_zero, Int.add_zero, Int.zero_add, reduceCtorEq, decide_true, decide_false, Bool.false_eq_true, List.reduceReplicate, *] | simp (disch := omega) only [wrap_i64, wrap_u8, Int.tdiv_eq_ediv_of_nonneg, Int.tmod_eq_emod_of_nonneg, if_pos] | refine callP_x ?_ | (refine ret_gen (by first | exact .inr rfl | exact .inl rfl) (rfl) ?_) | (refine guardP_split (fun _ => ?_) (fun _ => ?_)) | (refine condP_split (fun _ => ?_) (fun _ => ?_)) | (refine guardP_splitB (fun _ => ?_) (fun _ => ?_)) | (refine condP_splitB (fun _ => ?_) (fun _ => ?_)))
  rotate_left
  · symm; rw [decide_eq_false_iff_not]; rintro rfl; contradiction
  have hl : hs.length = ks.length := by omega
  refine sx_loop (fun m s => ∃ i, i ≤ hs.length ∧ m = hs.length - i ∧ s.τ 0 = .lst (hs.map hunkV) ∧ s.τ 1 = .lst (ks.map hunkV) ∧ s.τ 5 = .int .i64 (i : Int) ∧ hs.take i = ks.take i) hs.length ⟨0, by simp [go_sem]⟩ ?_
  rintro m s ⟨i, hi, rfl, h0, h1, h5, ht⟩
  simp only [go_sem, ↓reduceIte, Nat.reduceEqDiff, Nat.reduceAdd, Nat.reduceMul, Nat.reduceSub, Nat.reduceLeDiff, Nat.reduceLT, Nat.reduceBEq, Nat.reduceBNe, Int.reduceLT, Int.reduceLE, Int.reduceEq, Int.reduceNeg, Int.reduceToNat, Int.toNat_natCast, Int.natCast_nonneg, List.length_append, List.length_map, List.length_replicate, Bool.and_eq_true, decide_eq_true_eq, List.length_take, List.length_drop, Int.reduceSub, Int.reduceAdd, Int.reduceMul, Int.sub_zero, Int.add_zero, Int.zero_add, reduceCtorEq, decide_true, decide_false, Bool.false_eq_true, List.reduceReplicate, h0, h1, h5]
  refine condP_split (fun h => ?_) (fun h => ?_)
  · have hlt : i < hs.length := by omega
    have hlk : i < ks.length := by omega
    have hg := get_map (f := hunkV) hlt
    have hk := get_map (f := hunkV) hlk
    have hc := eqHunk_ac hs[i] ks[i]
    clear hl
    repeat' (first | simp only [go_sem, ↓reduceIte, Nat.reduceEqDiff, Nat.reduceAdd, Nat.reduceMul, Nat.reduceSub, Nat.reduceLeDiff, Nat.reduceLT, Nat.reduceBEq, Nat.reduceBNe, Int.reduceLT, Int.reduceLE, Int.reduceEq, Int.reduceNeg, Int.reduceToNat, Int.toNat_natCast, Int.natCast_nonneg, List.length_append, List.length_map, List.length_replicate, Bool.and_eq_true, decide_eq_true_eq, List.length_take, List.length_drop, Int.reduceSub, Int.reduceAdd, Int.reduceMul, Int.sub_zero, Int.add_zero, Int.zero_add, reduceCtorEq, decide_true, decide_false, Bool.false_eq_true, List.reduceReplicate, *] | simp (disch := omega) only [wrap_i64, wrap_u8, Int.tdiv_eq_ediv_of_nonneg, Int.tmod_eq_emod_of_nonneg, if_pos] | (refine callP_0 (hc ..) (rfl) (rfl) ?_) | (refine callX_ac (hc ..) (rfl) (rfl) ?_) | refine callP_x ?_ | (refine ret_gen (by first | exact .inr rfl | exact .inl rfl) (rfl) ?_) | (refine guardP_split (fun _ => ?_) (fun _ => ?_)) | (refine condP_split (fun _ => ?_) (fun _ => ?_)) | (refine guardP_splitB (fun _ => ?_) (fun _ => ?_)) | (refine condP_splitB (fun _ => ?_) (fun _ => ?_)))
    all_goals rename_i he
    all_goals first
      | exact ⟨hs.length - (i + 1), by omega, i + 1, by omega, rfl, by simp only [Int.natCast_add, Int.cast_ofNat_Int], take_step hlt hlk ht he⟩
      | (symm; rw [decide_eq_false_iff_not]; rintro rfl; exact he rfl)
  · have e : i = hs.length := by omega
    subst e
    repeat' (first | simp only [go_sem, ↓reduceIte, Nat.reduceEqDiff, Nat.reduceAdd, Nat.reduceMul, Nat.reduceSub, Nat.reduceLeDiff, Nat.reduceLT, Nat.reduceBEq, Nat.reduceBNe, Int.reduceLT, Int.reduceLE, Int.reduceEq, Int.reduceNeg, Int.reduceToNat, Int.toNat_natCast, Int.natCast_nonneg, List.length_append, List.length_map, List.length_replicate, Bool.and_eq_true, decide_eq_true_eq, List.length_take, List.length_drop, Int.reduceSub, Int.reduceAdd, Int.reduceMul, Int.sub_zero, Int.add_zero, Int.zero_add, reduceCtorEq, decide_true, decide_false, Bool.false_eq_true, List.reduceReplicate, *] | simp (disch := omega) only [wrap_i64, wrap_u8, Int.tdiv_eq_ediv_of_nonneg, Int.tmod_eq_emod_of_nonneg, if_pos] | refine callP_x ?_ | (refine ret_gen (by first | exact .inr rfl | exact .inl rfl) (rfl) ?_) | (refine guardP_split (fun _ => ?_) (fun _ => ?_)) | (refine condP_split (fun _ => ?_) (fun _ => ?_)) | (refine guardP_splitB (fun _ => ?_) (fun _ => ?_)) | (refine condP_splitB (fun _ => ?_) (fun _ => ?_)))
    symm; rw [decide_eq_true_iff]
    rw [List.take_length, hl, List.take_length] at ht
    exact ht
structure PatchD where
  src : Int
  dst : Int
  sumFrom : Int
  sumTo : Int
  hunks : List HunkD
  deriving DecidableEq
def patchV (x : PatchD) : AV := .agg [.int .i64 x.src, .int .i64 x.dst, .int .i64 x.sumFrom, .int .i64 x.sumTo, .lst (x.hunks.map hunkV)]
theorem patchV_eq (x : PatchD) : patchV x = .agg [.int .i64 x.src, .int .i64 x.dst, .int .i64 x.sumFrom, .int .i64 x.sumTo, .lst (x.hunks.map hunkV)] := (rfl)
attribute [local go_sem] patchV_eq
def okPatch (x : PatchD) : Prop := (x.hunks.length ≤ maxLen) ∧ (∀ y ∈ x.hunks, okHunk y)
def costPatch (x : PatchD) : Nat := x.hunks.length + csum costHunk x.hunks
theorem patch_ext {x y : PatchD} (h0 : x.src = y.src) (h1 : x.dst = y.dst) (h2 : x.sumFrom = y.sumFrom) (h3 : x.sumTo = y.sumTo) (h4 : x.hunks = y.hunks) : x = y := by cases x; cases y; simp_all
theorem dat_patch (n : Nat) {cs : List AV} (h : Dat Try.prog (n + 4) 24 cs) : ∃ x : PatchD, cs = [.int .i64 x.src, .int .i64 x.dst, .int .i64 x.sumFrom, .int .i64 x.sumTo, .lst (x.hunks.map hunkV)] ∧ okPatch x := by
  simp only [dat_succ, tk22, tk2, tk122, tk24, datK_struct, datK_slice, datK_int, datK_str, datK_bool, datF_cons, datF_nil, datVK_struct, datV_eq, datVK_int, datVK_str, datVK_bool, List.map_cons, List.map_nil] at h
  obtain ⟨c0, r0, rfl, ⟨a0, rfl, _⟩, c1, r1, rfl, ⟨a1, rfl, _⟩, c2, r2, rfl, ⟨a2, rfl, _⟩, c3, r3, rfl, ⟨a3, rfl, _⟩, c4, r4, rfl, ⟨a4, rfl, h4, g4⟩, rfl⟩ := h
  obtain ⟨b4, rfl, q4⟩ := all_map (f := hunkV) (P := okHunk) fun y hy => by
    obtain ⟨c, rfl, hc⟩ := g4 y hy
    obtain ⟨z, rfl, hz⟩ := dat_hunk (n + 0) hc
    exact ⟨z, rfl, hz⟩
  rw [List.length_map] at h4
  exact ⟨⟨a0, a1, a2, a3, b4⟩, rfl, h4, q4⟩
theorem toPatch_ac (x : PatchD) (hb : x.hunks.length ≤ 1048576) : AC Try.prog 12 [patchV x] (patchV x) := by
  simp only [patchV_eq]
  refine AC.of_run mo Try.func12 Try.call12 ⟨rfl, Try.ntmps12, Try.results12, by kernel_rfl⟩ rfl ?_
  repeat' (first | simp only [go_sem, ↓reduceIte, Nat.reduceEqDiff, Nat.reduceAdd, Nat.reduceMul, Nat.reduceSub, Nat.reduceLeDiff, Nat.reduceLT, Nat.reduceBEq, Nat.reduceBNe, Int.reduceLT, Int.reduceLE, Int.reduceEq, Int.reduceNeg, Int.reduceToNat, Int.toNat_natCast, Int.natCast_nonneg, List.length_append, List.length_map, List.length_replicate, Bool.and_eq_true, decide_eq_true_eq, List.length_take, List.length_drop, Int.reduceSub, Int.reduceAdd, Int.reduceMul, Int.sub_zero, Int.add_zero, Int.zero_add, reduceCtorEq, decide_true, decide_false, Bool.false_eq_true, List.reduceReplicate, *] | simp (disch := omega) only [wrap_i64, wrap_u8, Int.tdiv_eq_ediv_of_nonneg, Int.tmod_eq_emod_of_nonneg, if_pos] | (refine callP_0 (toHunkS_ac _ (by first | exact hb | omega)) (rfl) (rfl) ?_) | (refine callX_ac (toHunkS_ac _ (by first | exact hb | omega)) (rfl) (rfl) ?_) | refine callP_x ?_ | (refine ret_gen (by first | exact .inr rfl | exact .inl rfl) (rfl) ?_) | (refine guardP_split (fun _ => ?_) (fun _ => ?_)) | (refine condP_split (fun _ => ?_) (fun _ => ?_)) | (refine guardP_splitB (fun _ => ?_) (fun _ => ?_)) | (refine condP_splitB (fun _ => ?_) (fun _ => ?_)))
  refine RDs_aggR ?_
  simp only [go_sem, ↓reduceIte, Nat.reduceEqDiff, Nat.reduceAdd, Nat.reduceMul, Nat.reduceSub, Nat.reduceLeDiff, Nat.reduceLT, Nat.reduceBEq, Nat.reduceBNe, Int.reduceLT, Int.reduceLE, Int.reduceEq, Int.reduceNeg, Int.reduceToNat, Int.toNat_natCast, Int.natCast_nonneg, List.length_append, List.length_map, List.length_replicate, Bool.and_eq_true, decide_eq_true_eq, List.length_take, List.length_drop, Int.reduceSub, Int.reduceAdd, Int.reduceMul, Int.sub_zero, Int.add_zero, Int.zero_add, reduceCtorEq, decide_true, decide_false, Bool.false_eq_true, List.reduceReplicate, frz_none, dl_map, List.take_of_length_le, Nat.le_refl, implies_true, *]
theorem szPatch_ac (x : PatchD) (n : Int) (hok : okPatch x) (hn : 0 ≤ n ∧ n ≤ 1048576) : AC Try.prog 10 [patchV x, .int .i64 n] (.int .i64 (szR (costPatch x) n)) := by
  unfold okPatch maxLen at hok
  simp only [patchV_eq]
  refine AC.of_run mo Try.func10 Try.call10 ⟨rfl, Try.ntmps10, Try.results10, by kernel_rfl⟩ rfl ?_
  have r1 : (szR (x.hunks.length + csum costHunk x.hunks) n) ≤ 1048576 := szR_le _ (by omega)
  repeat' (first | simp only [go_sem, ↓reduceIte, Nat.reduceEqDiff, Nat.reduceAdd, Nat.reduceMul, Nat.reduceSub, Nat.reduceLeDiff, Nat.reduceLT, Nat.reduceBEq, Nat.reduceBNe, Int.reduceLT, Int.reduceLE, Int.reduceEq, Int.reduceNeg, Int.reduceToNat, Int.toNat_natCast, Int.natCast_nonneg, List.length_append, List.length_map, List.length_replicate, Bool.and_eq_true, decide_eq_true_eq, List.length_take, List.length_drop, Int.reduceSub, Int.reduceAdd, Int.reduceMul, Int.sub_zero, Int.add_zero, Int.zero_add, reduceCtorEq, decide_true, decide_false, Bool.false_eq_true, List.reduceReplicate, *] | simp (disch := omega) only [wrap_i64, wrap_u8, Int.tdiv_eq_ediv_of_nonneg, Int.tmod_eq_emod_of_nonneg, if_pos] | (refine callP_0 (szHunkS_ac _ _ (by simp_all [maxLen]) (by simp_all [maxLen]) (by first | omega | grind [szR])) (rfl) (rfl) ?_) | (refine callX_ac (szHunkS_ac _ _ (by simp_all [maxLen]) (by simp_all [maxLen]) (by first | omega | grind [szR])) (rfl) (rfl) ?_) | refine callP_x ?_ | (refine ret_gen (by first | exact .inr rfl | exact .inl rfl) (rfl) ?_) | (refine guardP_split (fun _ => ?_) (fun _ => ?_)) | (refine condP_split (fun _ => ?_) (fun _ => ?_)) | (refine guardP_splitB (fun _ => ?_) (fun _ => ?_)) | (refine condP_splitB (fun _ => ?_) (fun _ => ?_)))
  all_goals grind [szR, costPatch]
theorem eqPatch_ac (x y : PatchD) (hb : x.hunks.length ≤ 1048576) : AC Try.prog 14 [patchV x, patchV y] (.bool (decide (x = y))) := by
  simp only [patchV_eq]
  refine AC.of_run mo Try.func14 Try.call14 ⟨rfl, Try.ntmps14, Try.results14, by kernel_rfl⟩ rfl ?_
  repeat' (first | simp only [go_sem, ↓reduceIte, Nat.reduceEqDiff, Nat.reduceAdd, Nat.reduceMul, Nat.reduceSub, Nat.reduceLeDiff, Nat.reduceLT, Nat.reduceBEq, Nat.reduceBNe, Int.reduceLT, Int.reduceLE, Int.reduceEq, Int.reduceNeg, Int.reduceToNat, Int.toNat_natCast, Int.natCast_nonneg, List.length_append, List.length_map, List.length_replicate, Bool.and_eq_true, decide_eq_true_eq, List.length_take, List.length_drop, Int.reduceSub, Int.reduceAdd, Int.reduceMul, Int.sub_zero, Int.add_zero, Int.zero_add, reduceCtorEq, decide_true, decide_false, Bool.false_eq_true, List.reduceReplicate, *] | simp (disch := omega) only [wrap_i64, wrap_u8, Int.tdiv_eq_ediv_of_nonneg, Int.tmod_eq_emod_of_nonneg, if_pos] | (refine callP_0 (eqHunkS_ac _ _ (by first | exact hb | omega)) (rfl) (rfl) ?_) | (refine callX_ac (eqHunkS_ac _ _ (by first | exact hb | omega)) (rfl) (rfl) ?_) | refine callP_x ?_ | (refine ret_gen (by first | exact .inr rfl | exact .inl rfl) (rfl) ?_) | (refine guardP_split (fun _ => ?_) (fun _ => ?_)) | (refine condP_split (fun _ => ?_) (fun _ => ?_)) | (refine guardP_splitB (fun _ => ?_) (fun _ => ?_)) | (refine condP_splitB (fun _ => ?_) (fun _ => ?_)))
  all_goals first
    | (symm; rw [decide_eq_true_iff]; exact patch_ext (by first | assumption | simp_all) (by first | assumption | simp_all) (by first | assumption | simp_all) (by first | assumption | simp_all) (by first | assumption | simp_all))
    | (symm; rw [decide_eq_false_iff_not]; rintro rfl; simp_all)
end Go.Ab
