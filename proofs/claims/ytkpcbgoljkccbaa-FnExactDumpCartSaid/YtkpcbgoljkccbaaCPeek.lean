/- The contracts of functions that read cartridges. Conditions: none. -/
import Derived.Test.YtkpcbgoljkccbaaCCart
namespace Go.Ab
open Go.RowKit Go.Proofs
set_option maxRecDepth 10000
set_option maxHeartbeats 4000000
set_option linter.unusedSimpArgs false
set_option linter.unusedVariables false
noncomputable section
def byteR (x : Int) : Prop := 0 ≤ x ∧ x ≤ 255
instance (x : Int) : Decidable (byteR x) := by unfold byteR; infer_instance
def stOk (t : List UInt8) (m : Int) (p : List UInt8) (a b : Int) : Prop := cartOk t m p ∧ byteR a ∧ byteR b
instance (t : List UInt8) (m : Int) (p : List UInt8) (a b : Int) : Decidable (stOk t m p a b) := by unfold stOk; infer_instance
theorem isByte_ac (x : Int) : AC Try.prog 103 [.int .i64 x] (.bool (decide (byteR x))) := by
  refine AC.of_run mo Try.func103 Try.call103 ⟨rfl, Try.ntmps103, Try.results103, by kernel_rfl⟩ rfl ?_
  repeat' (first | simp only [go_sem, ↓reduceIte, Nat.reduceEqDiff, Nat.reduceAdd, Nat.reduceMul, Nat.reduceSub, Nat.reduceLeDiff, Nat.reduceLT, Nat.reduceBEq, Nat.reduceBNe, Int.reduceLT, Int.reduceLE, Int.reduceEq, Int.reduceNeg, Int.reduceToNat, Int.toNat_natCast, Int.natCast_nonneg, List.length_append, List.length_map, List.length_replicate, Bool.and_eq_true, decide_eq_true_eq, List.length_take, List.length_drop, Int.reduceSub, Int.reduceAdd, Int.reduceMul, Int.sub_zero, Int.add_zero, Int.zero_add, reduceCtorEq, decide_true, decide_false, Bool.false_eq_true, List.reduceReplicate, *] | simp (disch := omega) only [wrap_i64, wrap_u8, Int.tdiv_eq_ediv_of_nonneg, Int.tmod_eq_emod_of_nonneg, if_pos] | (refine callP_0 (within_ac ..) (rfl) (rfl) ?_) | (refine callX_ac (within_ac ..) (rfl) (rfl) ?_) | refine callP_x ?_ | (refine ret_gen (by first | exact .inr rfl | exact .inl rfl) (rfl) ?_) | (refine guardP_split (fun _ => ?_) (fun _ => ?_)) | (refine condP_split (fun _ => ?_) (fun _ => ?_)) | (refine guardP_splitB (fun _ => ?_) (fun _ => ?_)) | (refine condP_splitB (fun _ => ?_) (fun _ => ?_)))
  all_goals rfl
theorem validState_ac (t : List UInt8) (m : Int) (p : List UInt8) (a b : Int) (h : p.length ≤ 1048576) : AC Try.prog 65 [.agg [.str t, .int .i64 m, .str p, .int .i64 a, .int .i64 b]] (.bool (decide (stOk t m p a b))) := by
  refine AC.of_run mo Try.func65 Try.call65 ⟨rfl, Try.ntmps65, Try.results65, by kernel_rfl⟩ rfl ?_
  repeat' (first | simp only [go_sem, ↓reduceIte, Nat.reduceEqDiff, Nat.reduceAdd, Nat.reduceMul, Nat.reduceSub, Nat.reduceLeDiff, Nat.reduceLT, Nat.reduceBEq, Nat.reduceBNe, Int.reduceLT, Int.reduceLE, Int.reduceEq, Int.reduceNeg, Int.reduceToNat, Int.toNat_natCast, Int.natCast_nonneg, List.length_append, List.length_map, List.length_replicate, Bool.and_eq_true, decide_eq_true_eq, List.length_take, List.length_drop, Int.reduceSub, Int.reduceAdd, Int.reduceMul, Int.sub_zero, Int.add_zero, Int.zero_add, reduceCtorEq, decide_true, decide_false, Bool.false_eq_true, List.reduceReplicate, *] | simp (disch := omega) only [wrap_i64, wrap_u8, Int.tdiv_eq_ediv_of_nonneg, Int.tmod_eq_emod_of_nonneg, if_pos] | (refine callP_0 (iValidCart_ac _ _ _ h) (rfl) (rfl) ?_) | (refine callP_0 (isByte_ac ..) (rfl) (rfl) ?_) | (refine callX_ac (iValidCart_ac _ _ _ h) (rfl) (rfl) ?_) | (refine callX_ac (isByte_ac ..) (rfl) (rfl) ?_) | refine callP_x ?_ | (refine ret_gen (by first | exact .inr rfl | exact .inl rfl) (rfl) ?_) | (refine guardP_split (fun _ => ?_) (fun _ => ?_)) | (refine condP_split (fun _ => ?_) (fun _ => ?_)) | (refine guardP_splitB (fun _ => ?_) (fun _ => ?_)) | (refine condP_splitB (fun _ => ?_) (fun _ => ?_)))
  all_goals grind [stOk]
theorem l28State_ac (t : List UInt8) (m : Int) (p : List UInt8) (a b : Int) (h : p.length ≤ 1048576) : AC Try.prog 61 [.dptr [.str t, .int .i64 m, .str p, .int .i64 a, .int .i64 b]] (.bool (decide (stOk t m p a b))) := by
  refine AC.of_run mo Try.func61 Try.call61 ⟨rfl, Try.ntmps61, Try.results61, by kernel_rfl⟩ rfl ?_
  repeat' (first | simp only [go_sem, ↓reduceIte, Nat.reduceEqDiff, Nat.reduceAdd, Nat.reduceMul, Nat.reduceSub, Nat.reduceLeDiff, Nat.reduceLT, Nat.reduceBEq, Nat.reduceBNe, Int.reduceLT, Int.reduceLE, Int.reduceEq, Int.reduceNeg, Int.reduceToNat, Int.toNat_natCast, Int.natCast_nonneg, List.length_append, List.length_map, List.length_replicate, Bool.and_eq_true, decide_eq_true_eq, List.length_take, List.length_drop, Int.reduceSub, Int.reduceAdd, Int.reduceMul, Int.sub_zero, Int.add_zero, Int.zero_add, reduceCtorEq, decide_true, decide_false, Bool.false_eq_true, List.reduceReplicate, *] | simp (disch := omega) only [wrap_i64, wrap_u8, Int.tdiv_eq_ediv_of_nonneg, Int.tmod_eq_emod_of_nonneg, if_pos] | (refine callP_0 (l28Ok_ac _ _ _ _ h) (rfl) (rfl) ?_) | (refine callP_0 (l00In_ac ..) (rfl) (rfl) ?_) | (refine callX_ac (l28Ok_ac _ _ _ _ h) (rfl) (rfl) ?_) | (refine callX_ac (l00In_ac ..) (rfl) (rfl) ?_) | refine callP_x ?_ | (refine ret_gen (by first | exact .inr rfl | exact .inl rfl) (rfl) ?_) | (refine guardP_split (fun _ => ?_) (fun _ => ?_)) | (refine condP_split (fun _ => ?_) (fun _ => ?_)) | (refine guardP_splitB (fun _ => ?_) (fun _ => ?_)) | (refine condP_splitB (fun _ => ?_) (fun _ => ?_)))
  all_goals grind [stOk, byteR]
def shown (m n a b w : Int) : Int := if m = 1 then w % n else if w = 0 then a % n else if m = 2 then n - 1 else b % n
theorem l28Shown_ac (t : List UInt8) (m : Int) (p : List UInt8) (a b w : Int) (h : stOk t m p a b) (hw : w = 0 ∨ w = 1) : AC Try.prog 101 [.dptr [.str t, .int .i64 m, .str p, .int .i64 a, .int .i64 b], .int .i64 w] (.int .i64 (shown m ((p.length : Int) / 64) a b w)) := by
  have hp : p.length ≤ 1048576 := by have := h.1.2.2.1; have := h.1.2.2.2.1; omega
  have hb := h.1.2.2.2.1
  have hn : ¬ (p.length : Int) / 64 = 0 := by omega
  have ha := h.2.1.1
  have hb2 := h.2.2.1
  have h1 := h.1.2.2.2.2
  have hm := h.1.2.1
  refine AC.of_run mo Try.func101 Try.call101 ⟨rfl, Try.ntmps101, Try.results101, by kernel_rfl⟩ rfl ?_
  repeat' (first | simp only [go_sem, ↓reduceIte, Nat.reduceEqDiff, Nat.reduceAdd, Nat.reduceMul, Nat.reduceSub, Nat.reduceLeDiff, Nat.reduceLT, Nat.reduceBEq, Nat.reduceBNe, Int.reduceLT, Int.reduceLE, Int.reduceEq, Int.reduceNeg, Int.reduceToNat, Int.toNat_natCast, Int.natCast_nonneg, List.length_append, List.length_map, List.length_replicate, Bool.and_eq_true, decide_eq_true_eq, List.length_take, List.length_drop, Int.reduceSub, Int.reduceAdd, Int.reduceMul, Int.sub_zero, Int.add_zero, Int.zero_add, reduceCtorEq, decide_true, decide_false, Bool.false_eq_true, List.reduceReplicate, *] | simp (disch := omega) only [wrap_i64, wrap_u8, Int.tdiv_eq_ediv_of_nonneg, Int.tmod_eq_emod_of_nonneg, if_pos] | (refine callP_0 (sBanks_ac _ _ _ _ hp) (rfl) (rfl) ?_) | (refine callX_ac (sBanks_ac _ _ _ _ hp) (rfl) (rfl) ?_) | refine callP_x ?_ | (refine ret_gen (by first | exact .inr rfl | exact .inl rfl) (rfl) ?_) | (refine guardP_split (fun _ => ?_) (fun _ => ?_)) | (refine condP_split (fun _ => ?_) (fun _ => ?_)) | (refine guardP_splitB (fun _ => ?_) (fun _ => ?_)) | (refine condP_splitB (fun _ => ?_) (fun _ => ?_)))
  all_goals grind [shown]
def bankOf (p : List UInt8) (k : Int) : List UInt8 := (p.drop (64 * k).toNat).take 64
theorem l28Bank_ac (t : List UInt8) (m : Int) (p : List UInt8) (k : Int) (r : List AV) (h : p.length ≤ 1048576) (hk : 0 ≤ k ∧ 64 * k + 64 ≤ p.length) : AC Try.prog 100 [.dptr (.str t :: .int .i64 m :: .str p :: r), .int .i64 k] (.str (bankOf p k)) := by
  refine AC.of_run mo Try.func100 Try.call100 ⟨rfl, Try.ntmps100, Try.results100, by kernel_rfl⟩ rfl ?_
  repeat' (first | simp only [go_sem, ↓reduceIte, Nat.reduceEqDiff, Nat.reduceAdd, Nat.reduceMul, Nat.reduceSub, Nat.reduceLeDiff, Nat.reduceLT, Nat.reduceBEq, Nat.reduceBNe, Int.reduceLT, Int.reduceLE, Int.reduceEq, Int.reduceNeg, Int.reduceToNat, Int.toNat_natCast, Int.natCast_nonneg, List.length_append, List.length_map, List.length_replicate, Bool.and_eq_true, decide_eq_true_eq, List.length_take, List.length_drop, Int.reduceSub, Int.reduceAdd, Int.reduceMul, Int.sub_zero, Int.add_zero, Int.zero_add, reduceCtorEq, decide_true, decide_false, Bool.false_eq_true, List.reduceReplicate, *] | simp (disch := omega) only [wrap_i64, wrap_u8, Int.tdiv_eq_ediv_of_nonneg, Int.tmod_eq_emod_of_nonneg, if_pos] | refine callP_x ?_ | (refine ret_gen (by first | exact .inr rfl | exact .inl rfl) (rfl) ?_) | (refine guardP_split (fun _ => ?_) (fun _ => ?_)) | (refine condP_split (fun _ => ?_) (fun _ => ?_)) | (refine guardP_splitB (fun _ => ?_) (fun _ => ?_)) | (refine condP_splitB (fun _ => ?_) (fun _ => ?_)))
  rw [show (64 * (k + 1) - 64 * k).toNat = 64 by omega]
  rfl
def codeOf (t : List UInt8) (m : Int) (p : List UInt8) (a b x v : Int) : Int := if stOk t m p a b then (if (0 ≤ x ∧ x ≤ 127) ∧ byteR v then 0 else 2) else 1
theorem checkAddress_ac (t : List UInt8) (m : Int) (p : List UInt8) (a b x v : Int) (h : p.length ≤ 1048576) : AC Try.prog 67 [.agg [.str t, .int .i64 m, .str p, .int .i64 a, .int .i64 b], .int .i64 x, .int .i64 v] (.int .i64 (codeOf t m p a b x v)) := by
  refine AC.of_run mo Try.func67 Try.call67 ⟨rfl, Try.ntmps67, Try.results67, by kernel_rfl⟩ rfl ?_
  repeat' (first | simp only [go_sem, ↓reduceIte, Nat.reduceEqDiff, Nat.reduceAdd, Nat.reduceMul, Nat.reduceSub, Nat.reduceLeDiff, Nat.reduceLT, Nat.reduceBEq, Nat.reduceBNe, Int.reduceLT, Int.reduceLE, Int.reduceEq, Int.reduceNeg, Int.reduceToNat, Int.toNat_natCast, Int.natCast_nonneg, List.length_append, List.length_map, List.length_replicate, Bool.and_eq_true, decide_eq_true_eq, List.length_take, List.length_drop, Int.reduceSub, Int.reduceAdd, Int.reduceMul, Int.sub_zero, Int.add_zero, Int.zero_add, reduceCtorEq, decide_true, decide_false, Bool.false_eq_true, List.reduceReplicate, *] | simp (disch := omega) only [wrap_i64, wrap_u8, Int.tdiv_eq_ediv_of_nonneg, Int.tmod_eq_emod_of_nonneg, if_pos] | (refine callP_0 (validState_ac _ _ _ _ _ h) (rfl) (rfl) ?_) | (refine callP_0 (within_ac ..) (rfl) (rfl) ?_) | (refine callP_0 (isByte_ac ..) (rfl) (rfl) ?_) | (refine callX_ac (validState_ac _ _ _ _ _ h) (rfl) (rfl) ?_) | (refine callX_ac (within_ac ..) (rfl) (rfl) ?_) | (refine callX_ac (isByte_ac ..) (rfl) (rfl) ?_) | refine callP_x ?_ | (refine ret_gen (by first | exact .inr rfl | exact .inl rfl) (rfl) ?_) | (refine guardP_split (fun _ => ?_) (fun _ => ?_)) | (refine condP_split (fun _ => ?_) (fun _ => ?_)) | (refine guardP_splitB (fun _ => ?_) (fun _ => ?_)) | (refine condP_splitB (fun _ => ?_) (fun _ => ?_)))
  all_goals grind [codeOf]
theorem shown_in {t : List UInt8} {m : Int} {p : List UInt8} {a b w : Int} (h : stOk t m p a b) (hw : w = 0 ∨ w = 1) : 0 ≤ shown m ((p.length : Int) / 64) a b w ∧ 64 * shown m ((p.length : Int) / 64) a b w + 64 ≤ p.length := by
  have hb := h.1.2.2.2.1
  have ha := h.2.1.1
  have hb2 := h.2.2.1
  have hn : 0 < (p.length : Int) / 64 := by omega
  have key : ∀ x : Int, 0 ≤ x % ((p.length : Int) / 64) ∧ x % ((p.length : Int) / 64) < (p.length : Int) / 64 := fun x => ⟨Int.emod_nonneg _ (by omega), Int.emod_lt_of_pos _ hn⟩
  have := key a; have := key b; have := key w
  unfold shown
  split
  · omega
  · split
    · omega
    · split <;> omega
def peekV (p : List UInt8) (k x : Int) : UInt8 := (bankOf p k).getD (x % 64).toNat 0
theorem peek_get {p : List UInt8} {k x : Int} (hk : 0 ≤ k ∧ 64 * k + 64 ≤ p.length) : (bankOf p k)[(x % 64).toNat]? = some (peekV p k x) := by
  have hl : (bankOf p k).length = 64 := by simp only [bankOf, List.length_take, List.length_drop]; omega
  have hlt : (x % 64).toNat < (bankOf p k).length := by omega
  simp only [peekV, List.getD, List.getElem?_eq_getElem hlt, Option.getD_some]
def peekCart (t : List UInt8) (m : Int) (p : List UInt8) (a b x : Int) : AV :=
  if stOk t m p a b then (if 0 ≤ x ∧ x ≤ 127 then .tup [.int .i64 ((peekV p (shown m ((p.length : Int) / 64) a b (x / 64)) x).toNat : Int), .int .i64 0] else .tup [.int .i64 0, .int .i64 2]) else .tup [.int .i64 0, .int .i64 1]
theorem l28Peek_ac (t : List UInt8) (m : Int) (p : List UInt8) (a b x : Int) (h : stOk t m p a b) (hx : 0 ≤ x ∧ x ≤ 127) : AC Try.prog 63 [.dptr [.str t, .int .i64 m, .str p, .int .i64 a, .int .i64 b], .int .i64 x] (.int .i64 ((peekV p (shown m ((p.length : Int) / 64) a b (x / 64)) x).toNat : Int)) := by
  have hp : p.length ≤ 1048576 := by have := h.1.2.2.1; have := h.1.2.2.2.1; omega
  have hw : x / 64 = 0 ∨ x / 64 = 1 := by omega
  have hs := shown_in h hw
  have hg := peek_get (x := x) hs
  have h6 : 0 ≤ x % 64 := by omega
  have hu := (peekV p (shown m ((p.length : Int) / 64) a b (x / 64)) x).toNat_lt
  refine AC.of_run mo Try.func63 Try.call63 ⟨rfl, Try.ntmps63, Try.results63, by kernel_rfl⟩ rfl ?_
  repeat' (first | simp only [go_sem, ↓reduceIte, Nat.reduceEqDiff, Nat.reduceAdd, Nat.reduceMul, Nat.reduceSub, Nat.reduceLeDiff, Nat.reduceLT, Nat.reduceBEq, Nat.reduceBNe, Int.reduceLT, Int.reduceLE, Int.reduceEq, Int.reduceNeg, Int.reduceToNat, Int.toNat_natCast, Int.natCast_nonneg, List.length_append, List.length_map, List.length_replicate, Bool.and_eq_true, decide_eq_true_eq, List.length_take, List.length_drop, Int.reduceSub, Int.reduceAdd, Int.reduceMul, Int.sub_zero, Int.add_zero, Int.zero_add, reduceCtorEq, decide_true, decide_false, Bool.false_eq_true, List.reduceReplicate, *] | simp (disch := omega) only [wrap_i64, wrap_u8, Int.tdiv_eq_ediv_of_nonneg, Int.tmod_eq_emod_of_nonneg, if_pos] | (refine callP_0 (l28Shown_ac _ _ _ _ _ _ h hw) (rfl) (rfl) ?_) | (refine callP_0 (l28Bank_ac _ _ _ _ _ hp hs) (rfl) (rfl) ?_) | (refine callX_ac (l28Shown_ac _ _ _ _ _ _ h hw) (rfl) (rfl) ?_) | (refine callX_ac (l28Bank_ac _ _ _ _ _ hp hs) (rfl) (rfl) ?_) | refine callP_x ?_ | (refine ret_gen (by first | exact .inr rfl | exact .inl rfl) (rfl) ?_) | (refine guardP_split (fun _ => ?_) (fun _ => ?_)) | (refine condP_split (fun _ => ?_) (fun _ => ?_)) | (refine guardP_splitB (fun _ => ?_) (fun _ => ?_)) | (refine condP_splitB (fun _ => ?_) (fun _ => ?_)))
theorem toState_ac (t : List UInt8) (m : Int) (p : List UInt8) (a b : Int) : AC Try.prog 27 [.agg [.str t, .int .i64 m, .str p, .int .i64 a, .int .i64 b]] (.agg [.str t, .int .i64 m, .str p, .int .i64 a, .int .i64 b]) := by
  refine AC.of_run mo Try.func27 Try.call27 ⟨rfl, Try.ntmps27, Try.results27, by kernel_rfl⟩ rfl ?_
  repeat' (first | simp only [go_sem, ↓reduceIte, Nat.reduceEqDiff, Nat.reduceAdd, Nat.reduceMul, Nat.reduceSub, Nat.reduceLeDiff, Nat.reduceLT, Nat.reduceBEq, Nat.reduceBNe, Int.reduceLT, Int.reduceLE, Int.reduceEq, Int.reduceNeg, Int.reduceToNat, Int.toNat_natCast, Int.natCast_nonneg, List.length_append, List.length_map, List.length_replicate, Bool.and_eq_true, decide_eq_true_eq, List.length_take, List.length_drop, Int.reduceSub, Int.reduceAdd, Int.reduceMul, Int.sub_zero, Int.add_zero, Int.zero_add, reduceCtorEq, decide_true, decide_false, Bool.false_eq_true, List.reduceReplicate, *] | simp (disch := omega) only [wrap_i64, wrap_u8, Int.tdiv_eq_ediv_of_nonneg, Int.tmod_eq_emod_of_nonneg, if_pos] | (refine callP_0 (toCart_ac ..) (rfl) (rfl) ?_) | (refine callX_ac (toCart_ac ..) (rfl) (rfl) ?_) | refine callP_x ?_ | (refine ret_gen (by first | exact .inr rfl | exact .inl rfl) (rfl) ?_) | (refine guardP_split (fun _ => ?_) (fun _ => ?_)) | (refine condP_split (fun _ => ?_) (fun _ => ?_)) | (refine guardP_splitB (fun _ => ?_) (fun _ => ?_)) | (refine condP_splitB (fun _ => ?_) (fun _ => ?_)))
theorem szState_ac (t : List UInt8) (m : Int) (p : List UInt8) (a b : Int) (n : Int) (h1 : t.length ≤ maxLen) (h2 : p.length ≤ maxLen) (hn : 0 ≤ n ∧ n ≤ 1048576) : AC Try.prog 25 [.agg [.str t, .int .i64 m, .str p, .int .i64 a, .int .i64 b], .int .i64 n] (.int .i64 (if (t.length : Int) + p.length ≤ n then n - t.length - p.length else -1)) := by
  refine AC.of_run mo Try.func25 Try.call25 ⟨rfl, Try.ntmps25, Try.results25, by kernel_rfl⟩ rfl ?_
  repeat' (first | simp only [go_sem, ↓reduceIte, Nat.reduceEqDiff, Nat.reduceAdd, Nat.reduceMul, Nat.reduceSub, Nat.reduceLeDiff, Nat.reduceLT, Nat.reduceBEq, Nat.reduceBNe, Int.reduceLT, Int.reduceLE, Int.reduceEq, Int.reduceNeg, Int.reduceToNat, Int.toNat_natCast, Int.natCast_nonneg, List.length_append, List.length_map, List.length_replicate, Bool.and_eq_true, decide_eq_true_eq, List.length_take, List.length_drop, Int.reduceSub, Int.reduceAdd, Int.reduceMul, Int.sub_zero, Int.add_zero, Int.zero_add, reduceCtorEq, decide_true, decide_false, Bool.false_eq_true, List.reduceReplicate, *] | simp (disch := omega) only [wrap_i64, wrap_u8, Int.tdiv_eq_ediv_of_nonneg, Int.tmod_eq_emod_of_nonneg, if_pos] | (refine callP_0 (szCart_ac _ _ _ _ h1 h2 hn) (rfl) (rfl) ?_) | (refine callX_ac (szCart_ac _ _ _ _ h1 h2 hn) (rfl) (rfl) ?_) | refine callP_x ?_ | (refine ret_gen (by first | exact .inr rfl | exact .inl rfl) (rfl) ?_) | (refine guardP_split (fun _ => ?_) (fun _ => ?_)) | (refine condP_split (fun _ => ?_) (fun _ => ?_)) | (refine guardP_splitB (fun _ => ?_) (fun _ => ?_)) | (refine condP_splitB (fun _ => ?_) (fun _ => ?_)))
  all_goals grind
end
end Go.Ab
