/- The contracts of functions that write to cartridges and dump them. Conditions: none. -/
import Derived.Test.YtjoomndcdpkplaaDoorCPeek
namespace Go.Ab
open Go.RowKit Go.Proofs
set_option maxRecDepth 10000
set_option maxHeartbeats 4000000
set_option linter.unusedSimpArgs false
set_option linter.unusedVariables false
noncomputable section
def pokeA (m x v a : Int) : Int := if m = 2 ∨ (m = 3 ∧ x < 64) then v else a
def pokeB (m x v b : Int) : Int := if m = 3 ∧ ¬ x < 64 then v else b
def pokeCart (t : List UInt8) (m : Int) (p : List UInt8) (a b x v : Int) : AV :=
  if stOk t m p a b then (if (0 ≤ x ∧ x ≤ 127) ∧ byteR v then .tup [.agg [.str t, .int .i64 m, .str p, .int .i64 (pokeA m x v a), .int .i64 (pokeB m x v b)], .int .i64 0] else .tup [.agg zeroState, .int .i64 2]) else .tup [.agg zeroState, .int .i64 1]
theorem iPokeCart_ac (t : List UInt8) (m : Int) (p : List UInt8) (a b x v : Int) (h : p.length ≤ 1048576) : AC Tryd.prog 8 [.agg [.str t, .int .i64 m, .str p, .int .i64 a, .int .i64 b], .int .i64 x, .int .i64 v] (pokeCart t m p a b x v) := by
  have hc := checkAddress_ac t m p a b x v h
  unfold pokeCart zeroState
  by_cases hs : stOk t m p a b
  · by_cases hx : (0 ≤ x ∧ x ≤ 127) ∧ byteR v
    · rw [if_pos hs, if_pos hx]
      rw [show codeOf t m p a b x v = 0 by unfold codeOf; rw [if_pos hs, if_pos hx]] at hc
      refine AC.of_run mo Tryd.func8 Tryd.call8 ⟨rfl, Tryd.ntmps8, Tryd.results8, by kernel_rfl⟩ rfl ?_
      repeat' (first | simp only [go_sem, ↓reduceIte, Nat.reduceEqDiff, Nat.reduceAdd, Nat.reduceMul, Nat.reduceSub, Nat.reduceLeDiff, Nat.reduceLT, Nat.reduceBEq, Nat.reduceBNe, Int.reduceLT, Int.reduceLE, Int.reduceEq, Int.reduceNeg, Int.reduceToNat, Int.toNat_natCast, Int.natCast_nonneg, List.length_append, List.length_map, List.length_replicate, Bool.and_eq_true, decide_eq_true_eq, List.length_take, List.length_drop, Int.reduceSub, Int.reduceAdd, Int.reduceMul, Int.sub_zero, Int.add_zero, Int.zero_add, reduceCtorEq, decide_true, decide_false, Bool.false_eq_true, List.reduceReplicate, *] | simp (disch := omega) only [wrap_i64, wrap_u8, Int.tdiv_eq_ediv_of_nonneg, Int.tmod_eq_emod_of_nonneg, if_pos] | (refine callP_0 (hc ..) (rfl) (rfl) ?_) | (refine callX_ac (hc ..) (rfl) (rfl) ?_) | refine callP_x ?_ | (refine ret_gen (by first | exact .inr rfl | exact .inl rfl) (rfl) ?_) | (refine guardP_split (fun _ => ?_) (fun _ => ?_)) | (refine condP_split (fun _ => ?_) (fun _ => ?_)) | (refine guardP_splitB (fun _ => ?_) (fun _ => ?_)) | (refine condP_splitB (fun _ => ?_) (fun _ => ?_)))
      all_goals grind [pokeA, pokeB]
    · rw [if_pos hs, if_neg hx]
      rw [show codeOf t m p a b x v = 2 by unfold codeOf; rw [if_pos hs, if_neg hx]] at hc
      refine AC.of_run mo Tryd.func8 Tryd.call8 ⟨rfl, Tryd.ntmps8, Tryd.results8, by kernel_rfl⟩ rfl ?_
      repeat' (first | simp only [go_sem, ↓reduceIte, Nat.reduceEqDiff, Nat.reduceAdd, Nat.reduceMul, Nat.reduceSub, Nat.reduceLeDiff, Nat.reduceLT, Nat.reduceBEq, Nat.reduceBNe, Int.reduceLT, Int.reduceLE, Int.reduceEq, Int.reduceNeg, Int.reduceToNat, Int.toNat_natCast, Int.natCast_nonneg, List.length_append, List.length_map, List.length_replicate, Bool.and_eq_true, decide_eq_true_eq, List.length_take, List.length_drop, Int.reduceSub, Int.reduceAdd, Int.reduceMul, Int.sub_zero, Int.add_zero, Int.zero_add, reduceCtorEq, decide_true, decide_false, Bool.false_eq_true, List.reduceReplicate, *] | simp (disch := omega) only [wrap_i64, wrap_u8, Int.tdiv_eq_ediv_of_nonneg, Int.tmod_eq_emod_of_nonneg, if_pos] | (refine callP_0 (hc ..) (rfl) (rfl) ?_) | (refine callX_ac (hc ..) (rfl) (rfl) ?_) | refine callP_x ?_ | (refine ret_gen (by first | exact .inr rfl | exact .inl rfl) (rfl) ?_) | (refine guardP_split (fun _ => ?_) (fun _ => ?_)) | (refine condP_split (fun _ => ?_) (fun _ => ?_)) | (refine guardP_splitB (fun _ => ?_) (fun _ => ?_)) | (refine condP_splitB (fun _ => ?_) (fun _ => ?_)))
  · rw [if_neg hs]
    rw [show codeOf t m p a b x v = 1 by unfold codeOf; rw [if_neg hs]] at hc
    refine AC.of_run mo Tryd.func8 Tryd.call8 ⟨rfl, Tryd.ntmps8, Tryd.results8, by kernel_rfl⟩ rfl ?_
    repeat' (first | simp only [go_sem, ↓reduceIte, Nat.reduceEqDiff, Nat.reduceAdd, Nat.reduceMul, Nat.reduceSub, Nat.reduceLeDiff, Nat.reduceLT, Nat.reduceBEq, Nat.reduceBNe, Int.reduceLT, Int.reduceLE, Int.reduceEq, Int.reduceNeg, Int.reduceToNat, Int.toNat_natCast, Int.natCast_nonneg, List.length_append, List.length_map, List.length_replicate, Bool.and_eq_true, decide_eq_true_eq, List.length_take, List.length_drop, Int.reduceSub, Int.reduceAdd, Int.reduceMul, Int.sub_zero, Int.add_zero, Int.zero_add, reduceCtorEq, decide_true, decide_false, Bool.false_eq_true, List.reduceReplicate, *] | simp (disch := omega) only [wrap_i64, wrap_u8, Int.tdiv_eq_ediv_of_nonneg, Int.tmod_eq_emod_of_nonneg, if_pos] | (refine callP_0 (hc ..) (rfl) (rfl) ?_) | (refine callX_ac (hc ..) (rfl) (rfl) ?_) | refine callP_x ?_ | (refine ret_gen (by first | exact .inr rfl | exact .inl rfl) (rfl) ?_) | (refine guardP_split (fun _ => ?_) (fun _ => ?_)) | (refine condP_split (fun _ => ?_) (fun _ => ?_)) | (refine guardP_splitB (fun _ => ?_) (fun _ => ?_)) | (refine condP_splitB (fun _ => ?_) (fun _ => ?_)))
def dumpCart (t : List UInt8) (m : Int) (p : List UInt8) (a b : Int) : AV := if stOk t m p a b then .tup [.str p, .int .i64 0] else .tup [.str [], .int .i64 1]
theorem iDumpCart_ac (t : List UInt8) (m : Int) (p : List UInt8) (a b : Int) (h : p.length ≤ 1048576) : AC Tryd.prog 10 [.agg [.str t, .int .i64 m, .str p, .int .i64 a, .int .i64 b]] (dumpCart t m p a b) := by
  unfold dumpCart
  by_cases hs : stOk t m p a b
  · rw [if_pos hs]
    refine AC.of_run mo Tryd.func10 Tryd.call10 ⟨rfl, Tryd.ntmps10, Tryd.results10, by kernel_rfl⟩ rfl ?_
    repeat' (first | simp only [go_sem, ↓reduceIte, Nat.reduceEqDiff, Nat.reduceAdd, Nat.reduceMul, Nat.reduceSub, Nat.reduceLeDiff, Nat.reduceLT, Nat.reduceBEq, Nat.reduceBNe, Int.reduceLT, Int.reduceLE, Int.reduceEq, Int.reduceNeg, Int.reduceToNat, Int.toNat_natCast, Int.natCast_nonneg, List.length_append, List.length_map, List.length_replicate, Bool.and_eq_true, decide_eq_true_eq, List.length_take, List.length_drop, Int.reduceSub, Int.reduceAdd, Int.reduceMul, Int.sub_zero, Int.add_zero, Int.zero_add, reduceCtorEq, decide_true, decide_false, Bool.false_eq_true, List.reduceReplicate, *] | simp (disch := omega) only [wrap_i64, wrap_u8, Int.tdiv_eq_ediv_of_nonneg, Int.tmod_eq_emod_of_nonneg, if_pos] | (refine callP_0 (validState_ac _ _ _ _ _ h) (rfl) (rfl) ?_) | (refine callX_ac (validState_ac _ _ _ _ _ h) (rfl) (rfl) ?_) | refine callP_x ?_ | (refine ret_gen (by first | exact .inr rfl | exact .inl rfl) (rfl) ?_) | (refine guardP_split (fun _ => ?_) (fun _ => ?_)) | (refine condP_split (fun _ => ?_) (fun _ => ?_)) | (refine guardP_splitB (fun _ => ?_) (fun _ => ?_)) | (refine condP_splitB (fun _ => ?_) (fun _ => ?_)))
  · rw [if_neg hs]
    refine AC.of_run mo Tryd.func10 Tryd.call10 ⟨rfl, Tryd.ntmps10, Tryd.results10, by kernel_rfl⟩ rfl ?_
    repeat' (first | simp only [go_sem, ↓reduceIte, Nat.reduceEqDiff, Nat.reduceAdd, Nat.reduceMul, Nat.reduceSub, Nat.reduceLeDiff, Nat.reduceLT, Nat.reduceBEq, Nat.reduceBNe, Int.reduceLT, Int.reduceLE, Int.reduceEq, Int.reduceNeg, Int.reduceToNat, Int.toNat_natCast, Int.natCast_nonneg, List.length_append, List.length_map, List.length_replicate, Bool.and_eq_true, decide_eq_true_eq, List.length_take, List.length_drop, Int.reduceSub, Int.reduceAdd, Int.reduceMul, Int.sub_zero, Int.add_zero, Int.zero_add, reduceCtorEq, decide_true, decide_false, Bool.false_eq_true, List.reduceReplicate, *] | simp (disch := omega) only [wrap_i64, wrap_u8, Int.tdiv_eq_ediv_of_nonneg, Int.tmod_eq_emod_of_nonneg, if_pos] | (refine callP_0 (validState_ac _ _ _ _ _ h) (rfl) (rfl) ?_) | (refine callX_ac (validState_ac _ _ _ _ _ h) (rfl) (rfl) ?_) | refine callP_x ?_ | (refine ret_gen (by first | exact .inr rfl | exact .inl rfl) (rfl) ?_) | (refine guardP_split (fun _ => ?_) (fun _ => ?_)) | (refine condP_split (fun _ => ?_) (fun _ => ?_)) | (refine guardP_splitB (fun _ => ?_) (fun _ => ?_)) | (refine condP_splitB (fun _ => ?_) (fun _ => ?_)))
theorem dump_shown {t : List UInt8} {m : Int} {p : List UInt8} {a b : Int} (h : stOk t m p a b) {k : Int} (h0 : 0 ≤ k) (hk : k < (p.length : Int) / 64) : shown m ((p.length : Int) / 64) (pokeA m 0 k a) (pokeB m 0 k b) (if m = 1 then k else 0) = k := by
  have e : k % ((p.length : Int) / 64) = k := Int.emod_eq_of_lt h0 hk
  have hm := h.1.2.1
  unfold shown pokeA
  by_cases h1 : m = 1
  · rw [if_pos h1, if_pos h1, e]
  · rw [if_neg h1, if_neg h1, if_pos rfl, if_pos (by omega), e]
theorem dump_step {p : List UInt8} {k i : Nat} {x : Int} (hi : i < 64) (hx : x % 64 = i) (hk : 64 * k + 64 ≤ p.length) : p.take (64 * k + i) ++ [peekV p (k : Int) x] = p.take (64 * k + (i + 1)) := by
  have e : peekV p (k : Int) x = p[64 * k + i]'(by omega) := by
    unfold peekV bankOf
    rw [hx, show ((64 * (k : Int)).toNat) = 64 * k by omega, Int.toNat_natCast]
    simp only [List.getD, List.getElem?_take, hi, if_true, List.getElem?_drop]
    rw [List.getElem?_eq_getElem (by omega)]
    rfl
  rw [e, show 64 * k + (i + 1) = 64 * k + i + 1 by omega, List.take_add_one, List.getElem?_eq_getElem (by omega)]
  rfl
theorem poke_ok {t : List UInt8} {m : Int} {p : List UInt8} {a b : Int} (h : stOk t m p a b) {k : Int} (h0 : 0 ≤ k) (hk : k ≤ 255) : stOk t m p (pokeA m 0 k a) (pokeB m 0 k b) := by
  refine ⟨h.1, ?_, ?_⟩
  · unfold pokeA; split
    · exact ⟨h0, hk⟩
    · exact h.2.1
  · unfold pokeB; split
    · exact ⟨h0, hk⟩
    · exact h.2.2
end
end Go.Ab
