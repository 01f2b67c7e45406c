/- The contracts of functions that write to cartridges and dump them. Conditions: none. -/
import Derived.Test.YtkpcbgoljkccbaaCPeek
namespace Go.Ab
open Go.RowKit Go.Proofs
set_option maxRecDepth 10000
set_option maxHeartbeats 4000000
set_option linter.unusedSimpArgs false
set_option linter.unusedVariables false
noncomputable section
def pokeA (m x v a : Int) : Int := if m = 2 ∨ (m = 3 ∧ x < 64) then v else a
def pokeB (m x v b : Int) : Int := if m = 3 ∧ ¬ x < 64 then v else b
def pokeCart (t : List UInt8) (m : Int) (p : List UInt8) (a b x v : Int) : AV :=
  if stOk t m p a b then (if (0 ≤ x ∧ x ≤ 127) ∧ byteR v then .tup [.agg [.str t, .int .i64 m, .str p, .int .i64 (pokeA m x v a), .int .i64 (pokeB m x v b)], .int .i64 0] else .tup [.agg zeroState, .int .i64 2]) else .tup [.agg zeroState, .int .i64 1]
theorem sPokeCart_ac (t : List UInt8) (m : Int) (p : List UInt8) (a b x v : Int) (h : p.length ≤ 1048576) : AC Try.prog 29 [.agg [.str t, .int .i64 m, .str p, .int .i64 a, .int .i64 b], .int .i64 x, .int .i64 v] (pokeCart t m p a b x v) := by
  unfold pokeCart zeroState
  by_cases hs : stOk t m p a b
  · by_cases hx : (0 ≤ x ∧ x ≤ 127) ∧ byteR v
    · rw [if_pos hs, if_pos hx]
      have hv : 0 ≤ v ∧ v ≤ 255 := hx.2
      refine AC.of_run mo Try.func29 Try.call29 ⟨rfl, Try.ntmps29, Try.results29, by kernel_rfl⟩ rfl ?_
      repeat' (first | simp only [go_sem, ↓reduceIte, Nat.reduceEqDiff, Nat.reduceAdd, Nat.reduceMul, Nat.reduceSub, Nat.reduceLeDiff, Nat.reduceLT, Nat.reduceBEq, Nat.reduceBNe, Int.reduceLT, Int.reduceLE, Int.reduceEq, Int.reduceNeg, Int.reduceToNat, Int.toNat_natCast, Int.natCast_nonneg, List.length_append, List.length_map, List.length_replicate, Bool.and_eq_true, decide_eq_true_eq, List.length_take, List.length_drop, Int.reduceSub, Int.reduceAdd, Int.reduceMul, Int.sub_zero, Int.add_zero, Int.zero_add, reduceCtorEq, decide_true, decide_false, Bool.false_eq_true, List.reduceReplicate, *] | simp (disch := omega) only [wrap_i64, wrap_u8, Int.tdiv_eq_ediv_of_nonneg, Int.tmod_eq_emod_of_nonneg, if_pos] | (refine callP_0 (l28State_ac _ _ _ _ _ h) (rfl) (rfl) ?_) | (refine callP_0 (l00In_ac ..) (rfl) (rfl) ?_) | (refine callX_ac (l28State_ac _ _ _ _ _ h) (rfl) (rfl) ?_) | (refine callX_ac (l00In_ac ..) (rfl) (rfl) ?_) | refine callP_x ?_ | (refine ret_gen (by first | exact .inr rfl | exact .inl rfl) (rfl) ?_) | (refine guardP_split (fun _ => ?_) (fun _ => ?_)) | (refine condP_split (fun _ => ?_) (fun _ => ?_)) | (refine guardP_splitB (fun _ => ?_) (fun _ => ?_)) | (refine condP_splitB (fun _ => ?_) (fun _ => ?_)))
      all_goals grind [pokeA, pokeB]
    · rw [if_pos hs, if_neg hx]
      have hx2 : ¬ ((0 ≤ x ∧ x ≤ 127) ∧ 0 ≤ v ∧ v ≤ 255) := hx
      refine AC.of_run mo Try.func29 Try.call29 ⟨rfl, Try.ntmps29, Try.results29, by kernel_rfl⟩ rfl ?_
      repeat' (first | simp only [go_sem, ↓reduceIte, Nat.reduceEqDiff, Nat.reduceAdd, Nat.reduceMul, Nat.reduceSub, Nat.reduceLeDiff, Nat.reduceLT, Nat.reduceBEq, Nat.reduceBNe, Int.reduceLT, Int.reduceLE, Int.reduceEq, Int.reduceNeg, Int.reduceToNat, Int.toNat_natCast, Int.natCast_nonneg, List.length_append, List.length_map, List.length_replicate, Bool.and_eq_true, decide_eq_true_eq, List.length_take, List.length_drop, Int.reduceSub, Int.reduceAdd, Int.reduceMul, Int.sub_zero, Int.add_zero, Int.zero_add, reduceCtorEq, decide_true, decide_false, Bool.false_eq_true, List.reduceReplicate, *] | simp (disch := omega) only [wrap_i64, wrap_u8, Int.tdiv_eq_ediv_of_nonneg, Int.tmod_eq_emod_of_nonneg, if_pos] | (refine callP_0 (l28State_ac _ _ _ _ _ h) (rfl) (rfl) ?_) | (refine callP_0 (l00In_ac ..) (rfl) (rfl) ?_) | (refine callX_ac (l28State_ac _ _ _ _ _ h) (rfl) (rfl) ?_) | (refine callX_ac (l00In_ac ..) (rfl) (rfl) ?_) | refine callP_x ?_ | (refine ret_gen (by first | exact .inr rfl | exact .inl rfl) (rfl) ?_) | (refine guardP_split (fun _ => ?_) (fun _ => ?_)) | (refine condP_split (fun _ => ?_) (fun _ => ?_)) | (refine guardP_splitB (fun _ => ?_) (fun _ => ?_)) | (refine condP_splitB (fun _ => ?_) (fun _ => ?_)))
      all_goals grind
  · rw [if_neg hs]
    refine AC.of_run mo Try.func29 Try.call29 ⟨rfl, Try.ntmps29, Try.results29, by kernel_rfl⟩ rfl ?_
    repeat' (first | simp only [go_sem, ↓reduceIte, Nat.reduceEqDiff, Nat.reduceAdd, Nat.reduceMul, Nat.reduceSub, Nat.reduceLeDiff, Nat.reduceLT, Nat.reduceBEq, Nat.reduceBNe, Int.reduceLT, Int.reduceLE, Int.reduceEq, Int.reduceNeg, Int.reduceToNat, Int.toNat_natCast, Int.natCast_nonneg, List.length_append, List.length_map, List.length_replicate, Bool.and_eq_true, decide_eq_true_eq, List.length_take, List.length_drop, Int.reduceSub, Int.reduceAdd, Int.reduceMul, Int.sub_zero, Int.add_zero, Int.zero_add, reduceCtorEq, decide_true, decide_false, Bool.false_eq_true, List.reduceReplicate, *] | simp (disch := omega) only [wrap_i64, wrap_u8, Int.tdiv_eq_ediv_of_nonneg, Int.tmod_eq_emod_of_nonneg, if_pos] | (refine callP_0 (l28State_ac _ _ _ _ _ h) (rfl) (rfl) ?_) | (refine callP_0 (l00In_ac ..) (rfl) (rfl) ?_) | (refine callX_ac (l28State_ac _ _ _ _ _ h) (rfl) (rfl) ?_) | (refine callX_ac (l00In_ac ..) (rfl) (rfl) ?_) | refine callP_x ?_ | (refine ret_gen (by first | exact .inr rfl | exact .inl rfl) (rfl) ?_) | (refine guardP_split (fun _ => ?_) (fun _ => ?_)) | (refine condP_split (fun _ => ?_) (fun _ => ?_)) | (refine guardP_splitB (fun _ => ?_) (fun _ => ?_)) | (refine condP_splitB (fun _ => ?_) (fun _ => ?_)))
theorem iPokeCart_ac (t : List UInt8) (m : Int) (p : List UInt8) (a b x v : Int) (h : p.length ≤ 1048576) : AC Try.prog 30 [.agg [.str t, .int .i64 m, .str p, .int .i64 a, .int .i64 b], .int .i64 x, .int .i64 v] (pokeCart t m p a b x v) := by
  have hc := checkAddress_ac t m p a b x v h
  unfold pokeCart zeroState
  by_cases hs : stOk t m p a b
  · by_cases hx : (0 ≤ x ∧ x ≤ 127) ∧ byteR v
    · rw [if_pos hs, if_pos hx]
      rw [show codeOf t m p a b x v = 0 by unfold codeOf; rw [if_pos hs, if_pos hx]] at hc
      refine AC.of_run mo Try.func30 Try.call30 ⟨rfl, Try.ntmps30, Try.results30, by kernel_rfl⟩ rfl ?_
      repeat' (first | simp only [go_sem, ↓reduceIte, Nat.reduceEqDiff, Nat.reduceAdd, Nat.reduceMul, Nat.reduceSub, Nat.reduceLeDiff, Nat.reduceLT, Nat.reduceBEq, Nat.reduceBNe, Int.reduceLT, Int.reduceLE, Int.reduceEq, Int.reduceNeg, Int.reduceToNat, Int.toNat_natCast, Int.natCast_nonneg, List.length_append, List.length_map, List.length_replicate, Bool.and_eq_true, decide_eq_true_eq, List.length_take, List.length_drop, Int.reduceSub, Int.reduceAdd, Int.reduceMul, Int.sub_zero, Int.add_zero, Int.zero_add, reduceCtorEq, decide_true, decide_false, Bool.false_eq_true, List.reduceReplicate, *] | simp (disch := omega) only [wrap_i64, wrap_u8, Int.tdiv_eq_ediv_of_nonneg, Int.tmod_eq_emod_of_nonneg, if_pos] | (refine callP_0 (hc ..) (rfl) (rfl) ?_) | (refine callX_ac (hc ..) (rfl) (rfl) ?_) | refine callP_x ?_ | (refine ret_gen (by first | exact .inr rfl | exact .inl rfl) (rfl) ?_) | (refine guardP_split (fun _ => ?_) (fun _ => ?_)) | (refine condP_split (fun _ => ?_) (fun _ => ?_)) | (refine guardP_splitB (fun _ => ?_) (fun _ => ?_)) | (refine condP_splitB (fun _ => ?_) (fun _ => ?_)))
      all_goals grind [pokeA, pokeB]
    · rw [if_pos hs, if_neg hx]
      rw [show codeOf t m p a b x v = 2 by unfold codeOf; rw [if_pos hs, if_neg hx]] at hc
      refine AC.of_run mo Try.func30 Try.call30 ⟨rfl, Try.ntmps30, Try.results30, by kernel_rfl⟩ rfl ?_
      repeat' (first | simp only [go_sem, ↓reduceIte, Nat.reduceEqDiff, Nat.reduceAdd, Nat.reduceMul, Nat.reduceSub, Nat.reduceLeDiff, Nat.reduceLT, Nat.reduceBEq, Nat.reduceBNe, Int.reduceLT, Int.reduceLE, Int.reduceEq, Int.reduceNeg, Int.reduceToNat, Int.toNat_natCast, Int.natCast_nonneg, List.length_append, List.length_map, List.length_replicate, Bool.and_eq_true, decide_eq_true_eq, List.length_take, List.length_drop, Int.reduceSub, Int.reduceAdd, Int.reduceMul, Int.sub_zero, Int.add_zero, Int.zero_add, reduceCtorEq, decide_true, decide_false, Bool.false_eq_true, List.reduceReplicate, *] | simp (disch := omega) only [wrap_i64, wrap_u8, Int.tdiv_eq_ediv_of_nonneg, Int.tmod_eq_emod_of_nonneg, if_pos] | (refine callP_0 (hc ..) (rfl) (rfl) ?_) | (refine callX_ac (hc ..) (rfl) (rfl) ?_) | refine callP_x ?_ | (refine ret_gen (by first | exact .inr rfl | exact .inl rfl) (rfl) ?_) | (refine guardP_split (fun _ => ?_) (fun _ => ?_)) | (refine condP_split (fun _ => ?_) (fun _ => ?_)) | (refine guardP_splitB (fun _ => ?_) (fun _ => ?_)) | (refine condP_splitB (fun _ => ?_) (fun _ => ?_)))
  · rw [if_neg hs]
    rw [show codeOf t m p a b x v = 1 by unfold codeOf; rw [if_neg hs]] at hc
    refine AC.of_run mo Try.func30 Try.call30 ⟨rfl, Try.ntmps30, Try.results30, by kernel_rfl⟩ rfl ?_
    repeat' (first | simp only [go_sem, ↓reduceIte, Nat.reduceEqDiff, Nat.reduceAdd, Nat.reduceMul, Nat.reduceSub, Nat.reduceLeDiff, Nat.reduceLT, Nat.reduceBEq, Nat.reduceBNe, Int.reduceLT, Int.reduceLE, Int.reduceEq, Int.reduceNeg, Int.reduceToNat, Int.toNat_natCast, Int.natCast_nonneg, List.length_append, List.length_map, List.length_replicate, Bool.and_eq_true, decide_eq_true_eq, List.length_take, List.length_drop, Int.reduceSub, Int.reduceAdd, Int.reduceMul, Int.sub_zero, Int.add_zero, Int.zero_add, reduceCtorEq, decide_true, decide_false, Bool.false_eq_true, List.reduceReplicate, *] | simp (disch := omega) only [wrap_i64, wrap_u8, Int.tdiv_eq_ediv_of_nonneg, Int.tmod_eq_emod_of_nonneg, if_pos] | (refine callP_0 (hc ..) (rfl) (rfl) ?_) | (refine callX_ac (hc ..) (rfl) (rfl) ?_) | refine callP_x ?_ | (refine ret_gen (by first | exact .inr rfl | exact .inl rfl) (rfl) ?_) | (refine guardP_split (fun _ => ?_) (fun _ => ?_)) | (refine condP_split (fun _ => ?_) (fun _ => ?_)) | (refine guardP_splitB (fun _ => ?_) (fun _ => ?_)) | (refine condP_splitB (fun _ => ?_) (fun _ => ?_)))
def dumpCart (t : List UInt8) (m : Int) (p : List UInt8) (a b : Int) : AV := if stOk t m p a b then .tup [.str p, .int .i64 0] else .tup [.str [], .int .i64 1]
theorem iDumpCart_ac (t : List UInt8) (m : Int) (p : List UInt8) (a b : Int) (h : p.length ≤ 1048576) : AC Try.prog 28 [.agg [.str t, .int .i64 m, .str p, .int .i64 a, .int .i64 b]] (dumpCart t m p a b) := by
  unfold dumpCart
  by_cases hs : stOk t m p a b
  · rw [if_pos hs]
    refine AC.of_run mo Try.func28 Try.call28 ⟨rfl, Try.ntmps28, Try.results28, by kernel_rfl⟩ rfl ?_
    repeat' (first | simp only [go_sem, ↓reduceIte, Nat.reduceEqDiff, Nat.reduceAdd, Nat.reduceMul, Nat.reduceSub, Nat.reduceLeDiff, Nat.reduceLT, Nat.reduceBEq, Nat.reduceBNe, Int.reduceLT, Int.reduceLE, Int.reduceEq, Int.reduceNeg, Int.reduceToNat, Int.toNat_natCast, Int.natCast_nonneg, List.length_append, List.length_map, List.length_replicate, Bool.and_eq_true, decide_eq_true_eq, List.length_take, List.length_drop, Int.reduceSub, Int.reduceAdd, Int.reduceMul, Int.sub_zero, Int.add_zero, Int.zero_add, reduceCtorEq, decide_true, decide_false, Bool.false_eq_true, List.reduceReplicate, *] | simp (disch := omega) only [wrap_i64, wrap_u8, Int.tdiv_eq_ediv_of_nonneg, Int.tmod_eq_emod_of_nonneg, if_pos] | (refine callP_0 (validState_ac _ _ _ _ _ h) (rfl) (rfl) ?_) | (refine callX_ac (validState_ac _ _ _ _ _ h) (rfl) (rfl) ?_) | refine callP_x ?_ | (refine ret_gen (by first | exact .inr rfl | exact .inl rfl) (rfl) ?_) | (refine guardP_split (fun _ => ?_) (fun _ => ?_)) | (refine condP_split (fun _ => ?_) (fun _ => ?_)) | (refine guardP_splitB (fun _ => ?_) (fun _ => ?_)) | (refine condP_splitB (fun _ => ?_) (fun _ => ?_)))
  · rw [if_neg hs]
    refine AC.of_run mo Try.func28 Try.call28 ⟨rfl, Try.ntmps28, Try.results28, by kernel_rfl⟩ rfl ?_
    repeat' (first | simp only [go_sem, ↓reduceIte, Nat.reduceEqDiff, Nat.reduceAdd, Nat.reduceMul, Nat.reduceSub, Nat.reduceLeDiff, Nat.reduceLT, Nat.reduceBEq, Nat.reduceBNe, Int.reduceLT, Int.reduceLE, Int.reduceEq, Int.reduceNeg, Int.reduceToNat, Int.toNat_natCast, Int.natCast_nonneg, List.length_append, List.length_map, List.length_replicate, Bool.and_eq_true, decide_eq_true_eq, List.length_take, List.length_drop, Int.reduceSub, Int.reduceAdd, Int.reduceMul, Int.sub_zero, Int.add_zero, Int.zero_add, reduceCtorEq, decide_true, decide_false, Bool.false_eq_true, List.reduceReplicate, *] | simp (disch := omega) only [wrap_i64, wrap_u8, Int.tdiv_eq_ediv_of_nonneg, Int.tmod_eq_emod_of_nonneg, if_pos] | (refine callP_0 (validState_ac _ _ _ _ _ h) (rfl) (rfl) ?_) | (refine callX_ac (validState_ac _ _ _ _ _ h) (rfl) (rfl) ?_) | refine callP_x ?_ | (refine ret_gen (by first | exact .inr rfl | exact .inl rfl) (rfl) ?_) | (refine guardP_split (fun _ => ?_) (fun _ => ?_)) | (refine condP_split (fun _ => ?_) (fun _ => ?_)) | (refine guardP_splitB (fun _ => ?_) (fun _ => ?_)) | (refine condP_splitB (fun _ => ?_) (fun _ => ?_)))
theorem dump_shown {t : List UInt8} {m : Int} {p : List UInt8} {a b : Int} (h : stOk t m p a b) {k : Int} (h0 : 0 ≤ k) (hk : k < (p.length : Int) / 64) : shown m ((p.length : Int) / 64) (pokeA m 0 k a) (pokeB m 0 k b) (if m = 1 then k else 0) = k := by
  have e : k % ((p.length : Int) / 64) = k := Int.emod_eq_of_lt h0 hk
  have hm := h.1.2.1
  unfold shown pokeA
  by_cases h1 : m = 1
  · rw [if_pos h1, if_pos h1, e]
  · rw [if_neg h1, if_neg h1, if_pos rfl, if_pos (by omega), e]
theorem dump_step {p : List UInt8} {k i : Nat} {x : Int} (hi : i < 64) (hx : x % 64 = i) (hk : 64 * k + 64 ≤ p.length) : p.take (64 * k + i) ++ [peekV p (k : Int) x] = p.take (64 * k + (i + 1)) := by
  have e : peekV p (k : Int) x = p[64 * k + i]'(by omega) := by
    unfold peekV bankOf
    rw [hx, show ((64 * (k : Int)).toNat) = 64 * k by omega, Int.toNat_natCast]
    simp only [List.getD, List.getElem?_take, hi, if_true, List.getElem?_drop]
    rw [List.getElem?_eq_getElem (by omega)]
    rfl
  rw [e, show 64 * k + (i + 1) = 64 * k + i + 1 by omega, List.take_add_one, List.getElem?_eq_getElem (by omega)]
  rfl
theorem poke_ok {t : List UInt8} {m : Int} {p : List UInt8} {a b : Int} (h : stOk t m p a b) {k : Int} (h0 : 0 ≤ k) (hk : k ≤ 255) : stOk t m p (pokeA m 0 k a) (pokeB m 0 k b) := by
  refine ⟨h.1, ?_, ?_⟩
  · unfold pokeA; split
    · exact ⟨h0, hk⟩
    · exact h.2.1
  · unfold pokeB; split
    · exact ⟨h0, hk⟩
    · exact h.2.2
theorem sDumpCart_ac (t : List UInt8) (m : Int) (p : List UInt8) (a b : Int) (h : p.length ≤ 1048576) : AC Try.prog 26 [.agg [.str t, .int .i64 m, .str p, .int .i64 a, .int .i64 b]] (dumpCart t m p a b) := by
  unfold dumpCart
  by_cases hs : stOk t m p a b
  · rw [if_pos hs]
    refine AC.of_run mo Try.func26 Try.call26 ⟨rfl, Try.ntmps26, Try.results26, by kernel_rfl⟩ rfl ?_
    repeat' (first | simp only [go_sem, ↓reduceIte, Nat.reduceEqDiff, Nat.reduceAdd, Nat.reduceMul, Nat.reduceSub, Nat.reduceLeDiff, Nat.reduceLT, Nat.reduceBEq, Nat.reduceBNe, Int.reduceLT, Int.reduceLE, Int.reduceEq, Int.reduceNeg, Int.reduceToNat, Int.toNat_natCast, Int.natCast_nonneg, List.length_append, List.length_map, List.length_replicate, Bool.and_eq_true, decide_eq_true_eq, List.length_take, List.length_drop, Int.reduceSub, Int.reduceAdd, Int.reduceMul, Int.sub_zero, Int.add_zero, Int.zero_add, reduceCtorEq, decide_true, decide_false, Bool.false_eq_true, List.reduceReplicate, *] | simp (disch := omega) only [wrap_i64, wrap_u8, Int.tdiv_eq_ediv_of_nonneg, Int.tmod_eq_emod_of_nonneg, if_pos] | (refine callP_0 (l28State_ac _ _ _ _ _ h) (rfl) (rfl) ?_) | (refine callX_ac (l28State_ac _ _ _ _ _ h) (rfl) (rfl) ?_) | refine callP_x ?_ | (refine ret_gen (by first | exact .inr rfl | exact .inl rfl) (rfl) ?_) | (refine guardP_split (fun _ => ?_) (fun _ => ?_)) | (refine condP_split (fun _ => ?_) (fun _ => ?_)) | (refine guardP_splitB (fun _ => ?_) (fun _ => ?_)) | (refine condP_splitB (fun _ => ?_) (fun _ => ?_)))
    have hmod := hs.1.2.2.1
    have hb := hs.1.2.2.2.1
    have h1 := hs.1.2.2.2.2
    refine sx_loop (fun mm s => ∃ k g, k ≤ p.length / 64 ∧ mm = p.length / 64 - k ∧ s.τ 1 = .ptr 0 0 0 0 ∧ s.τ 4 = .ref 3000 g 0 (64 * k) ∧ s.τ 5 = .int .i64 (k : Int) ∧ s.nx = 0 ∧
      s.H 0 = some ⟨5, [.agg [.str t, .int .i64 m, .str p, .int .i64 a, .int .i64 b]], 0, true⟩ ∧ s.H 3000 = some ⟨1, bytesA (p.take (64 * k)), g, true⟩) (p.length / 64) ⟨0, 0, by omega, by omega, by simp [go_sem, bytesA_nil]⟩ ?_
    rintro mm s ⟨k, g, hk, rfl, t1, t4, t5, hnx, hH0, hH1⟩
    have hsB := sBanks_ac t m p [.int .i64 a, .int .i64 b] h
    simp only [go_sem, ↓reduceIte, Nat.reduceEqDiff, Nat.reduceAdd, Nat.reduceMul, Nat.reduceSub, Nat.reduceLeDiff, Nat.reduceLT, Nat.reduceBEq, Nat.reduceBNe, Int.reduceLT, Int.reduceLE, Int.reduceEq, Int.reduceNeg, Int.reduceToNat, Int.toNat_natCast, Int.natCast_nonneg, List.length_append, List.length_map, List.length_replicate, Bool.and_eq_true, decide_eq_true_eq, List.length_take, List.length_drop, Int.reduceSub, Int.reduceAdd, Int.reduceMul, Int.sub_zero, Int.add_zero, Int.zero_add, reduceCtorEq, decide_true, decide_false, Bool.false_eq_true, List.reduceReplicate, t1, t4, t5, hnx, hH0]
    refine callP_x ?_; simp only [go_sem, ↓reduceIte, Nat.reduceEqDiff, Nat.reduceAdd, Nat.reduceMul, Nat.reduceSub, Nat.reduceLeDiff, Nat.reduceLT, Nat.reduceBEq, Nat.reduceBNe, Int.reduceLT, Int.reduceLE, Int.reduceEq, Int.reduceNeg, Int.reduceToNat, Int.toNat_natCast, Int.natCast_nonneg, List.length_append, List.length_map, List.length_replicate, Bool.and_eq_true, decide_eq_true_eq, List.length_take, List.length_drop, Int.reduceSub, Int.reduceAdd, Int.reduceMul, Int.sub_zero, Int.add_zero, Int.zero_add, reduceCtorEq, decide_true, decide_false, Bool.false_eq_true, List.reduceReplicate, *]; refine callX_ac (hsB) (rfl) (rfl) ?_; simp only [go_sem, ↓reduceIte, Nat.reduceEqDiff, Nat.reduceAdd, Nat.reduceMul, Nat.reduceSub, Nat.reduceLeDiff, Nat.reduceLT, Nat.reduceBEq, Nat.reduceBNe, Int.reduceLT, Int.reduceLE, Int.reduceEq, Int.reduceNeg, Int.reduceToNat, Int.toNat_natCast, Int.natCast_nonneg, List.length_append, List.length_map, List.length_replicate, Bool.and_eq_true, decide_eq_true_eq, List.length_take, List.length_drop, Int.reduceSub, Int.reduceAdd, Int.reduceMul, Int.sub_zero, Int.add_zero, Int.zero_add, reduceCtorEq, decide_true, decide_false, Bool.false_eq_true, List.reduceReplicate]
    refine condP_split (fun hc => ?_) (fun hc => ?_)
    · have hlt : k < p.length / 64 := by omega
      have hpk := sPokeCart_ac t m p a b 0 k h
      rw [pokeCart, if_pos hs, if_pos ⟨by omega, by unfold byteR; omega⟩] at hpk
      have hsh := dump_shown hs (k := (k : Int)) (by omega) (by omega)
      have hok := poke_ok hs (k := (k : Int)) (by omega) (by omega)
      have hW01 : (if m = 1 then (k : Int) else 0) = 0 ∨ (if m = 1 then (k : Int) else 0) = 1 := by split <;> omega
      generalize hWd : (if m = 1 then (k : Int) else 0) = W at hsh hW01
      repeat' (first | simp only [go_sem, ↓reduceIte, Nat.reduceEqDiff, Nat.reduceAdd, Nat.reduceMul, Nat.reduceSub, Nat.reduceLeDiff, Nat.reduceLT, Nat.reduceBEq, Nat.reduceBNe, Int.reduceLT, Int.reduceLE, Int.reduceEq, Int.reduceNeg, Int.reduceToNat, Int.toNat_natCast, Int.natCast_nonneg, List.length_append, List.length_map, List.length_replicate, Bool.and_eq_true, decide_eq_true_eq, List.length_take, List.length_drop, Int.reduceSub, Int.reduceAdd, Int.reduceMul, Int.sub_zero, Int.add_zero, Int.zero_add, reduceCtorEq, decide_true, decide_false, Bool.false_eq_true, List.reduceReplicate, *] | simp (disch := omega) only [wrap_i64, wrap_u8, Int.tdiv_eq_ediv_of_nonneg, Int.tmod_eq_emod_of_nonneg, if_pos] | (refine callP_0 (hpk ..) (rfl) (rfl) ?_) | (refine callX_ac (hpk ..) (rfl) (rfl) ?_) | refine callP_x ?_ | (refine ret_gen (by first | exact .inr rfl | exact .inl rfl) (rfl) ?_) | (refine guardP_split (fun _ => ?_) (fun _ => ?_)) | (refine condP_split (fun _ => ?_) (fun _ => ?_)) | (refine guardP_splitB (fun _ => ?_) (fun _ => ?_)) | (refine condP_splitB (fun _ => ?_) (fun _ => ?_)))
      all_goals (
        rename_i hm
        first
          | have hm3 : m = 1 ∨ k = k + 1 := .inl hm
          | skip
        refine sx_loop (fun mm s => ∃ i g gx, i ≤ 64 ∧ mm = 64 - i ∧ s.τ 1 = .ptr 0 0 0 0 ∧ s.τ 4 = .ref 3000 g 0 (64 * k + i) ∧ s.τ 5 = .int .i64 (k : Int) ∧ s.τ 6 = .ptr 7006 gx 0 0 ∧ s.τ 8 = .int .i64 W ∧ s.τ 9 = .int .i64 (i : Int) ∧ s.nx = 0 ∧
          s.H 0 = some ⟨5, [.agg [.str t, .int .i64 m, .str p, .int .i64 a, .int .i64 b]], 0, true⟩ ∧ s.H 7006 = some ⟨5, [.agg [.str t, .int .i64 m, .str p, .int .i64 (pokeA m 0 k a), .int .i64 (pokeB m 0 k b)]], gx, true⟩ ∧
          s.H 3000 = some ⟨1, bytesA (p.take (64 * k + i)), g, true⟩) 64 ⟨0, g, ngenB (s.H 7006), by simp [go_sem, t1, t4, t5, hH0, hH1, ← hWd, hm]⟩ ?_
        clear hm
        rintro mm s ⟨i, g, gx, hi, rfl, u1, u4, u5, u6, u8, u9, unx, uH0, uH6, uH3⟩
        simp only [go_sem, ↓reduceIte, Nat.reduceEqDiff, Nat.reduceAdd, Nat.reduceMul, Nat.reduceSub, Nat.reduceLeDiff, Nat.reduceLT, Nat.reduceBEq, Nat.reduceBNe, Int.reduceLT, Int.reduceLE, Int.reduceEq, Int.reduceNeg, Int.reduceToNat, Int.toNat_natCast, Int.natCast_nonneg, List.length_append, List.length_map, List.length_replicate, Bool.and_eq_true, decide_eq_true_eq, List.length_take, List.length_drop, Int.reduceSub, Int.reduceAdd, Int.reduceMul, Int.sub_zero, Int.add_zero, Int.zero_add, reduceCtorEq, decide_true, decide_false, Bool.false_eq_true, List.reduceReplicate, u1, u4, u5, u6, u8, u9, unx, uH0, uH6, uH3]
        refine condP_split (fun hc => ?_) (fun hc => ?_)
        · have hp := l28Peek_ac t m p (pokeA m 0 k a) (pokeB m 0 k b) (64 * W + i) hok (by omega)
          have e1 : (64 * W + (i : Int)) / 64 = W := by omega
          rw [e1, hsh] at hp
          have hst := dump_step (p := p) (k := k) (i := i) (x := 64 * W + i) (by omega) (by omega) (by omega)
          have hu := (peekV p (k : Int) (64 * W + i)).toNat_lt
          have hlt2 : (p.take (64 * k + i)).length = 64 * k + i := by rw [List.length_take]; omega
          repeat' (first | simp only [go_sem, ↓reduceIte, Nat.reduceEqDiff, Nat.reduceAdd, Nat.reduceMul, Nat.reduceSub, Nat.reduceLeDiff, Nat.reduceLT, Nat.reduceBEq, Nat.reduceBNe, Int.reduceLT, Int.reduceLE, Int.reduceEq, Int.reduceNeg, Int.reduceToNat, Int.toNat_natCast, Int.natCast_nonneg, List.length_append, List.length_map, List.length_replicate, Bool.and_eq_true, decide_eq_true_eq, List.length_take, List.length_drop, Int.reduceSub, Int.reduceAdd, Int.reduceMul, Int.sub_zero, Int.add_zero, Int.zero_add, reduceCtorEq, decide_true, decide_false, Bool.false_eq_true, List.reduceReplicate, *] | simp (disch := omega) only [wrap_i64, wrap_u8, Int.tdiv_eq_ediv_of_nonneg, Int.tmod_eq_emod_of_nonneg, if_pos] | (refine callP_0 (hp ..) (rfl) (rfl) ?_) | (refine callX_ac (hp ..) (rfl) (rfl) ?_) | refine callP_x ?_ | (refine ret_gen (by first | exact .inr rfl | exact .inl rfl) (rfl) ?_) | (refine guardP_split (fun _ => ?_) (fun _ => ?_)) | (refine condP_split (fun _ => ?_) (fun _ => ?_)) | (refine guardP_splitB (fun _ => ?_) (fun _ => ?_)) | (refine condP_splitB (fun _ => ?_) (fun _ => ?_)))
          rw [bytesA_one, hst]
          exact ⟨64 - (i + 1), by omega, i + 1, g + 1, gx, by omega, rfl, rfl, rfl, by simp only [Int.natCast_add, Int.cast_ofNat_Int], rfl, rfl⟩
        · have e : i = 64 := by omega
          subst e
          repeat' (first | simp only [go_sem, ↓reduceIte, Nat.reduceEqDiff, Nat.reduceAdd, Nat.reduceMul, Nat.reduceSub, Nat.reduceLeDiff, Nat.reduceLT, Nat.reduceBEq, Nat.reduceBNe, Int.reduceLT, Int.reduceLE, Int.reduceEq, Int.reduceNeg, Int.reduceToNat, Int.toNat_natCast, Int.natCast_nonneg, List.length_append, List.length_map, List.length_replicate, Bool.and_eq_true, decide_eq_true_eq, List.length_take, List.length_drop, Int.reduceSub, Int.reduceAdd, Int.reduceMul, Int.sub_zero, Int.add_zero, Int.zero_add, reduceCtorEq, decide_true, decide_false, Bool.false_eq_true, List.reduceReplicate, *] | simp (disch := omega) only [wrap_i64, wrap_u8, Int.tdiv_eq_ediv_of_nonneg, Int.tmod_eq_emod_of_nonneg, if_pos] | refine callP_x ?_ | (refine ret_gen (by first | exact .inr rfl | exact .inl rfl) (rfl) ?_) | (refine guardP_split (fun _ => ?_) (fun _ => ?_)) | (refine condP_split (fun _ => ?_) (fun _ => ?_)) | (refine guardP_splitB (fun _ => ?_) (fun _ => ?_)) | (refine condP_splitB (fun _ => ?_) (fun _ => ?_)))
          refine ⟨p.length / 64 - (k + 1), by omega, k + 1, g, by omega, rfl, rfl, by simp only [Int.natCast_add, Int.cast_ofNat_Int], ?_⟩
          first
            | rfl
            | exact ⟨hm3.elim (fun h3 => by rw [h3]) (fun h3 => absurd h3 (by omega)), rfl⟩)
    · have e : k = p.length / 64 := by omega
      subst e
      have e2 : 64 * (p.length / 64) = p.length := by omega
      rw [e2] at t4 hH1
      rw [List.take_length] at hH1
      repeat' (first | simp only [go_sem, ↓reduceIte, Nat.reduceEqDiff, Nat.reduceAdd, Nat.reduceMul, Nat.reduceSub, Nat.reduceLeDiff, Nat.reduceLT, Nat.reduceBEq, Nat.reduceBNe, Int.reduceLT, Int.reduceLE, Int.reduceEq, Int.reduceNeg, Int.reduceToNat, Int.toNat_natCast, Int.natCast_nonneg, List.length_append, List.length_map, List.length_replicate, Bool.and_eq_true, decide_eq_true_eq, List.length_take, List.length_drop, Int.reduceSub, Int.reduceAdd, Int.reduceMul, Int.sub_zero, Int.add_zero, Int.zero_add, reduceCtorEq, decide_true, decide_false, Bool.false_eq_true, List.reduceReplicate, *] | simp (disch := omega) only [wrap_i64, wrap_u8, Int.tdiv_eq_ediv_of_nonneg, Int.tmod_eq_emod_of_nonneg, if_pos] | refine callP_x ?_ | (refine ret_gen (by first | exact .inr rfl | exact .inl rfl) (rfl) ?_) | (refine guardP_split (fun _ => ?_) (fun _ => ?_)) | (refine condP_split (fun _ => ?_) (fun _ => ?_)) | (refine guardP_splitB (fun _ => ?_) (fun _ => ?_)) | (refine condP_splitB (fun _ => ?_) (fun _ => ?_)))
      done
  · rw [if_neg hs]
    refine AC.of_run mo Try.func26 Try.call26 ⟨rfl, Try.ntmps26, Try.results26, by kernel_rfl⟩ rfl ?_
    repeat' (first | simp only [go_sem, ↓reduceIte, Nat.reduceEqDiff, Nat.reduceAdd, Nat.reduceMul, Nat.reduceSub, Nat.reduceLeDiff, Nat.reduceLT, Nat.reduceBEq, Nat.reduceBNe, Int.reduceLT, Int.reduceLE, Int.reduceEq, Int.reduceNeg, Int.reduceToNat, Int.toNat_natCast, Int.natCast_nonneg, List.length_append, List.length_map, List.length_replicate, Bool.and_eq_true, decide_eq_true_eq, List.length_take, List.length_drop, Int.reduceSub, Int.reduceAdd, Int.reduceMul, Int.sub_zero, Int.add_zero, Int.zero_add, reduceCtorEq, decide_true, decide_false, Bool.false_eq_true, List.reduceReplicate, *] | simp (disch := omega) only [wrap_i64, wrap_u8, Int.tdiv_eq_ediv_of_nonneg, Int.tmod_eq_emod_of_nonneg, if_pos] | (refine callP_0 (l28State_ac _ _ _ _ _ h) (rfl) (rfl) ?_) | (refine callX_ac (l28State_ac _ _ _ _ _ h) (rfl) (rfl) ?_) | refine callP_x ?_ | (refine ret_gen (by first | exact .inr rfl | exact .inl rfl) (rfl) ?_) | (refine guardP_split (fun _ => ?_) (fun _ => ?_)) | (refine condP_split (fun _ => ?_) (fun _ => ?_)) | (refine guardP_splitB (fun _ => ?_) (fun _ => ?_)) | (refine condP_splitB (fun _ => ?_) (fun _ => ?_)))
end
end Go.Ab
