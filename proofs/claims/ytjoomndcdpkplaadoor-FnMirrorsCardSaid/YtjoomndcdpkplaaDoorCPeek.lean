/- The contracts of functions that read cartridges. Conditions: none. -/
import Derived.Test.YtjoomndcdpkplaaDoorCCart
namespace Go.Ab
open Go.RowKit Go.Proofs
set_option maxRecDepth 10000
set_option maxHeartbeats 4000000
set_option linter.unusedSimpArgs false
set_option linter.unusedVariables false
noncomputable section
def byteR (x : Int) : Prop := 0 ≤ x ∧ x ≤ 255
instance (x : Int) : Decidable (byteR x) := by unfold byteR; infer_instance
def stOk (t : List UInt8) (m : Int) (p : List UInt8) (a b : Int) : Prop := cartOk t m p ∧ byteR a ∧ byteR b
instance (t : List UInt8) (m : Int) (p : List UInt8) (a b : Int) : Decidable (stOk t m p a b) := by unfold stOk; infer_instance
theorem isByte_ac (x : Int) : AC Tryd.prog 41 [.int .i64 x] (.bool (decide (byteR x))) := by
  refine AC.of_run mo Tryd.func41 Tryd.call41 ⟨rfl, Tryd.ntmps41, Tryd.results41, by kernel_rfl⟩ rfl ?_
  repeat' (first | simp only [go_sem, ↓reduceIte, Nat.reduceEqDiff, Nat.reduceAdd, Nat.reduceMul, Nat.reduceSub, Nat.reduceLeDiff, Nat.reduceLT, Nat.reduceBEq, Nat.reduceBNe, Int.reduceLT, Int.reduceLE, Int.reduceEq, Int.reduceNeg, Int.reduceToNat, Int.toNat_natCast, Int.natCast_nonneg, List.length_append, List.length_map, List.length_replicate, Bool.and_eq_true, decide_eq_true_eq, List.length_take, List.length_drop, Int.reduceSub, Int.reduceAdd, Int.reduceMul, Int.sub_zero, Int.add_zero, Int.zero_add, reduceCtorEq, decide_true, decide_false, Bool.false_eq_true, List.reduceReplicate, *] | simp (disch := omega) only [wrap_i64, wrap_u8, Int.tdiv_eq_ediv_of_nonneg, Int.tmod_eq_emod_of_nonneg, if_pos] | (refine callP_0 (within_ac ..) (rfl) (rfl) ?_) | (refine callX_ac (within_ac ..) (rfl) (rfl) ?_) | refine callP_x ?_ | (refine ret_gen (by first | exact .inr rfl | exact .inl rfl) (rfl) ?_) | (refine guardP_split (fun _ => ?_) (fun _ => ?_)) | (refine condP_split (fun _ => ?_) (fun _ => ?_)) | (refine guardP_splitB (fun _ => ?_) (fun _ => ?_)) | (refine condP_splitB (fun _ => ?_) (fun _ => ?_)))
  all_goals rfl
theorem validState_ac (t : List UInt8) (m : Int) (p : List UInt8) (a b : Int) (h : p.length ≤ 1048576) : AC Tryd.prog 23 [.agg [.str t, .int .i64 m, .str p, .int .i64 a, .int .i64 b]] (.bool (decide (stOk t m p a b))) := by
  refine AC.of_run mo Tryd.func23 Tryd.call23 ⟨rfl, Tryd.ntmps23, Tryd.results23, by kernel_rfl⟩ rfl ?_
  repeat' (first | simp only [go_sem, ↓reduceIte, Nat.reduceEqDiff, Nat.reduceAdd, Nat.reduceMul, Nat.reduceSub, Nat.reduceLeDiff, Nat.reduceLT, Nat.reduceBEq, Nat.reduceBNe, Int.reduceLT, Int.reduceLE, Int.reduceEq, Int.reduceNeg, Int.reduceToNat, Int.toNat_natCast, Int.natCast_nonneg, List.length_append, List.length_map, List.length_replicate, Bool.and_eq_true, decide_eq_true_eq, List.length_take, List.length_drop, Int.reduceSub, Int.reduceAdd, Int.reduceMul, Int.sub_zero, Int.add_zero, Int.zero_add, reduceCtorEq, decide_true, decide_false, Bool.false_eq_true, List.reduceReplicate, *] | simp (disch := omega) only [wrap_i64, wrap_u8, Int.tdiv_eq_ediv_of_nonneg, Int.tmod_eq_emod_of_nonneg, if_pos] | (refine callP_0 (iValidCart_ac _ _ _ h) (rfl) (rfl) ?_) | (refine callP_0 (isByte_ac ..) (rfl) (rfl) ?_) | (refine callX_ac (iValidCart_ac _ _ _ h) (rfl) (rfl) ?_) | (refine callX_ac (isByte_ac ..) (rfl) (rfl) ?_) | refine callP_x ?_ | (refine ret_gen (by first | exact .inr rfl | exact .inl rfl) (rfl) ?_) | (refine guardP_split (fun _ => ?_) (fun _ => ?_)) | (refine condP_split (fun _ => ?_) (fun _ => ?_)) | (refine guardP_splitB (fun _ => ?_) (fun _ => ?_)) | (refine condP_splitB (fun _ => ?_) (fun _ => ?_)))
  all_goals grind [stOk]
def shown (m n a b w : Int) : Int := if m = 1 then w % n else if w = 0 then a % n else if m = 2 then n - 1 else b % n
theorem window_ac (t : List UInt8) (m : Int) (p : List UInt8) (a b : Int) (w : Bool) (h : stOk t m p a b) : AC Tryd.prog 30 [.agg [.str t, .int .i64 m, .str p, .int .i64 a, .int .i64 b], .bool w] (.int .i64 (shown m ((p.length : Int) / 64) a b (if w then 1 else 0))) := by
  have hp : p.length ≤ 1048576 := by have := h.1.2.2.1; have := h.1.2.2.2.1; omega
  have hb := h.1.2.2.2.1
  have hn : ¬ (p.length : Int) / 64 = 0 := by omega
  have ha := h.2.1.1
  have hb2 := h.2.2.1
  have h1 := h.1.2.2.2.2
  have hm := h.1.2.1
  refine AC.of_run mo Tryd.func30 Tryd.call30 ⟨rfl, Tryd.ntmps30, Tryd.results30, by kernel_rfl⟩ rfl ?_
  cases w
  · repeat' (first | simp only [go_sem, ↓reduceIte, Nat.reduceEqDiff, Nat.reduceAdd, Nat.reduceMul, Nat.reduceSub, Nat.reduceLeDiff, Nat.reduceLT, Nat.reduceBEq, Nat.reduceBNe, Int.reduceLT, Int.reduceLE, Int.reduceEq, Int.reduceNeg, Int.reduceToNat, Int.toNat_natCast, Int.natCast_nonneg, List.length_append, List.length_map, List.length_replicate, Bool.and_eq_true, decide_eq_true_eq, List.length_take, List.length_drop, Int.reduceSub, Int.reduceAdd, Int.reduceMul, Int.sub_zero, Int.add_zero, Int.zero_add, reduceCtorEq, decide_true, decide_false, Bool.false_eq_true, List.reduceReplicate, *] | simp (disch := omega) only [wrap_i64, wrap_u8, Int.tdiv_eq_ediv_of_nonneg, Int.tmod_eq_emod_of_nonneg, if_pos] | (refine callP_0 (banks_ac _ _ _ hp) (rfl) (rfl) ?_) | (refine callX_ac (banks_ac _ _ _ hp) (rfl) (rfl) ?_) | refine callP_x ?_ | (refine ret_gen (by first | exact .inr rfl | exact .inl rfl) (rfl) ?_) | (refine guardP_split (fun _ => ?_) (fun _ => ?_)) | (refine condP_split (fun _ => ?_) (fun _ => ?_)) | (refine guardP_splitB (fun _ => ?_) (fun _ => ?_)) | (refine condP_splitB (fun _ => ?_) (fun _ => ?_)))
    all_goals grind [shown, Int.zero_emod]
  · repeat' (first | simp only [go_sem, ↓reduceIte, Nat.reduceEqDiff, Nat.reduceAdd, Nat.reduceMul, Nat.reduceSub, Nat.reduceLeDiff, Nat.reduceLT, Nat.reduceBEq, Nat.reduceBNe, Int.reduceLT, Int.reduceLE, Int.reduceEq, Int.reduceNeg, Int.reduceToNat, Int.toNat_natCast, Int.natCast_nonneg, List.length_append, List.length_map, List.length_replicate, Bool.and_eq_true, decide_eq_true_eq, List.length_take, List.length_drop, Int.reduceSub, Int.reduceAdd, Int.reduceMul, Int.sub_zero, Int.add_zero, Int.zero_add, reduceCtorEq, decide_true, decide_false, Bool.false_eq_true, List.reduceReplicate, *] | simp (disch := omega) only [wrap_i64, wrap_u8, Int.tdiv_eq_ediv_of_nonneg, Int.tmod_eq_emod_of_nonneg, if_pos] | (refine callP_0 (banks_ac _ _ _ hp) (rfl) (rfl) ?_) | (refine callX_ac (banks_ac _ _ _ hp) (rfl) (rfl) ?_) | refine callP_x ?_ | (refine ret_gen (by first | exact .inr rfl | exact .inl rfl) (rfl) ?_) | (refine guardP_split (fun _ => ?_) (fun _ => ?_)) | (refine condP_split (fun _ => ?_) (fun _ => ?_)) | (refine guardP_splitB (fun _ => ?_) (fun _ => ?_)) | (refine condP_splitB (fun _ => ?_) (fun _ => ?_)))
    · have h2 := h1 (by assumption)
      have h3 : (p.length : Int) / 64 = 1 ∨ (p.length : Int) / 64 = 2 := by omega
      rcases h3 with h3 | h3 <;> rw [h3] <;> rfl
    all_goals grind [shown]
def bankOf (p : List UInt8) (k : Int) : List UInt8 := (p.drop (64 * k).toNat).take 64
theorem bank_ac (t : List UInt8) (m : Int) (p : List UInt8) (k : Int) (h : p.length ≤ 1048576) (hk : 0 ≤ k ∧ 64 * k + 64 ≤ p.length) : AC Tryd.prog 29 [.agg [.str t, .int .i64 m, .str p], .int .i64 k] (.str (bankOf p k)) := by
  refine AC.of_run mo Tryd.func29 Tryd.call29 ⟨rfl, Tryd.ntmps29, Tryd.results29, by kernel_rfl⟩ rfl ?_
  repeat' (first | simp only [go_sem, ↓reduceIte, Nat.reduceEqDiff, Nat.reduceAdd, Nat.reduceMul, Nat.reduceSub, Nat.reduceLeDiff, Nat.reduceLT, Nat.reduceBEq, Nat.reduceBNe, Int.reduceLT, Int.reduceLE, Int.reduceEq, Int.reduceNeg, Int.reduceToNat, Int.toNat_natCast, Int.natCast_nonneg, List.length_append, List.length_map, List.length_replicate, Bool.and_eq_true, decide_eq_true_eq, List.length_take, List.length_drop, Int.reduceSub, Int.reduceAdd, Int.reduceMul, Int.sub_zero, Int.add_zero, Int.zero_add, reduceCtorEq, decide_true, decide_false, Bool.false_eq_true, List.reduceReplicate, *] | simp (disch := omega) only [wrap_i64, wrap_u8, Int.tdiv_eq_ediv_of_nonneg, Int.tmod_eq_emod_of_nonneg, if_pos] | refine callP_x ?_ | (refine ret_gen (by first | exact .inr rfl | exact .inl rfl) (rfl) ?_) | (refine guardP_split (fun _ => ?_) (fun _ => ?_)) | (refine condP_split (fun _ => ?_) (fun _ => ?_)) | (refine guardP_splitB (fun _ => ?_) (fun _ => ?_)) | (refine condP_splitB (fun _ => ?_) (fun _ => ?_)))
  rw [show ((k + 1) * 64 - k * 64).toNat = 64 by omega, show k * 64 = 64 * k by omega]
  rfl
def codeOf (t : List UInt8) (m : Int) (p : List UInt8) (a b x v : Int) : Int := if stOk t m p a b then (if (0 ≤ x ∧ x ≤ 127) ∧ byteR v then 0 else 2) else 1
theorem checkAddress_ac (t : List UInt8) (m : Int) (p : List UInt8) (a b x v : Int) (h : p.length ≤ 1048576) : AC Tryd.prog 22 [.agg [.str t, .int .i64 m, .str p, .int .i64 a, .int .i64 b], .int .i64 x, .int .i64 v] (.int .i64 (codeOf t m p a b x v)) := by
  refine AC.of_run mo Tryd.func22 Tryd.call22 ⟨rfl, Tryd.ntmps22, Tryd.results22, by kernel_rfl⟩ rfl ?_
  repeat' (first | simp only [go_sem, ↓reduceIte, Nat.reduceEqDiff, Nat.reduceAdd, Nat.reduceMul, Nat.reduceSub, Nat.reduceLeDiff, Nat.reduceLT, Nat.reduceBEq, Nat.reduceBNe, Int.reduceLT, Int.reduceLE, Int.reduceEq, Int.reduceNeg, Int.reduceToNat, Int.toNat_natCast, Int.natCast_nonneg, List.length_append, List.length_map, List.length_replicate, Bool.and_eq_true, decide_eq_true_eq, List.length_take, List.length_drop, Int.reduceSub, Int.reduceAdd, Int.reduceMul, Int.sub_zero, Int.add_zero, Int.zero_add, reduceCtorEq, decide_true, decide_false, Bool.false_eq_true, List.reduceReplicate, *] | simp (disch := omega) only [wrap_i64, wrap_u8, Int.tdiv_eq_ediv_of_nonneg, Int.tmod_eq_emod_of_nonneg, if_pos] | (refine callP_0 (validState_ac _ _ _ _ _ h) (rfl) (rfl) ?_) | (refine callP_0 (within_ac ..) (rfl) (rfl) ?_) | (refine callP_0 (isByte_ac ..) (rfl) (rfl) ?_) | (refine callX_ac (validState_ac _ _ _ _ _ h) (rfl) (rfl) ?_) | (refine callX_ac (within_ac ..) (rfl) (rfl) ?_) | (refine callX_ac (isByte_ac ..) (rfl) (rfl) ?_) | refine callP_x ?_ | (refine ret_gen (by first | exact .inr rfl | exact .inl rfl) (rfl) ?_) | (refine guardP_split (fun _ => ?_) (fun _ => ?_)) | (refine condP_split (fun _ => ?_) (fun _ => ?_)) | (refine guardP_splitB (fun _ => ?_) (fun _ => ?_)) | (refine condP_splitB (fun _ => ?_) (fun _ => ?_)))
  all_goals grind [codeOf]
theorem shown_in {t : List UInt8} {m : Int} {p : List UInt8} {a b w : Int} (h : stOk t m p a b) (hw : w = 0 ∨ w = 1) : 0 ≤ shown m ((p.length : Int) / 64) a b w ∧ 64 * shown m ((p.length : Int) / 64) a b w + 64 ≤ p.length := by
  have hb := h.1.2.2.2.1
  have ha := h.2.1.1
  have hb2 := h.2.2.1
  have hn : 0 < (p.length : Int) / 64 := by omega
  have key : ∀ x : Int, 0 ≤ x % ((p.length : Int) / 64) ∧ x % ((p.length : Int) / 64) < (p.length : Int) / 64 := fun x => ⟨Int.emod_nonneg _ (by omega), Int.emod_lt_of_pos _ hn⟩
  have := key a; have := key b; have := key w
  unfold shown
  split
  · omega
  · split
    · omega
    · split <;> omega
def peekV (p : List UInt8) (k x : Int) : UInt8 := (bankOf p k).getD (x % 64).toNat 0
theorem peek_get {p : List UInt8} {k x : Int} (hk : 0 ≤ k ∧ 64 * k + 64 ≤ p.length) : (bankOf p k)[(x % 64).toNat]? = some (peekV p k x) := by
  have hl : (bankOf p k).length = 64 := by simp only [bankOf, List.length_take, List.length_drop]; omega
  have hlt : (x % 64).toNat < (bankOf p k).length := by omega
  simp only [peekV, List.getD, List.getElem?_eq_getElem hlt, Option.getD_some]
def peekCart (t : List UInt8) (m : Int) (p : List UInt8) (a b x : Int) : AV :=
  if stOk t m p a b then (if 0 ≤ x ∧ x ≤ 127 then .tup [.int .i64 ((peekV p (shown m ((p.length : Int) / 64) a b (x / 64)) x).toNat : Int), .int .i64 0] else .tup [.int .i64 0, .int .i64 2]) else .tup [.int .i64 0, .int .i64 1]
theorem iPeekCart_ac (t : List UInt8) (m : Int) (p : List UInt8) (a b x : Int) (h : p.length ≤ 1048576) : AC Tryd.prog 13 [.agg [.str t, .int .i64 m, .str p, .int .i64 a, .int .i64 b], .int .i64 x] (peekCart t m p a b x) := by
  have hc := checkAddress_ac t m p a b x 0 h
  unfold peekCart
  by_cases hs : stOk t m p a b
  · by_cases hx : 0 ≤ x ∧ x ≤ 127
    · have e : codeOf t m p a b x 0 = 0 := by simp [codeOf, hs, hx, byteR]
      rw [e] at hc
      simp only [hs, hx, and_self, if_true]
      have hw : x / 64 = 0 ∨ x / 64 = 1 := by omega
      have hs2 := shown_in hs hw
      have hg := peek_get (x := x) hs2
      have h6 : 0 ≤ x % 64 := by omega
      have hu := (peekV p (shown m ((p.length : Int) / 64) a b (x / 64)) x).toNat_lt
      have hwin := window_ac t m p a b (decide (64 ≤ x)) hs
      have e2 : (if decide (64 ≤ x) = true then (1 : Int) else 0) = x / 64 := by
        by_cases h64 : 64 ≤ x
        · simp only [h64, decide_true, if_true]; omega
        · simp only [h64, decide_false, Bool.false_eq_true, if_false]; omega
      rw [e2] at hwin
      refine AC.of_run mo Tryd.func13 Tryd.call13 ⟨rfl, Tryd.ntmps13, Tryd.results13, by kernel_rfl⟩ rfl ?_
      repeat' (first | simp only [go_sem, ↓reduceIte, Nat.reduceEqDiff, Nat.reduceAdd, Nat.reduceMul, Nat.reduceSub, Nat.reduceLeDiff, Nat.reduceLT, Nat.reduceBEq, Nat.reduceBNe, Int.reduceLT, Int.reduceLE, Int.reduceEq, Int.reduceNeg, Int.reduceToNat, Int.toNat_natCast, Int.natCast_nonneg, List.length_append, List.length_map, List.length_replicate, Bool.and_eq_true, decide_eq_true_eq, List.length_take, List.length_drop, Int.reduceSub, Int.reduceAdd, Int.reduceMul, Int.sub_zero, Int.add_zero, Int.zero_add, reduceCtorEq, decide_true, decide_false, Bool.false_eq_true, List.reduceReplicate, *] | simp (disch := omega) only [wrap_i64, wrap_u8, Int.tdiv_eq_ediv_of_nonneg, Int.tmod_eq_emod_of_nonneg, if_pos] | (refine callP_0 (hc ..) (rfl) (rfl) ?_) | (refine callP_0 (hwin ..) (rfl) (rfl) ?_) | (refine callP_0 (bank_ac _ _ _ _ h hs2) (rfl) (rfl) ?_) | (refine callX_ac (hc ..) (rfl) (rfl) ?_) | (refine callX_ac (hwin ..) (rfl) (rfl) ?_) | (refine callX_ac (bank_ac _ _ _ _ h hs2) (rfl) (rfl) ?_) | refine callP_x ?_ | (refine ret_gen (by first | exact .inr rfl | exact .inl rfl) (rfl) ?_) | (refine guardP_split (fun _ => ?_) (fun _ => ?_)) | (refine condP_split (fun _ => ?_) (fun _ => ?_)) | (refine guardP_splitB (fun _ => ?_) (fun _ => ?_)) | (refine condP_splitB (fun _ => ?_) (fun _ => ?_)))
    · have e : codeOf t m p a b x 0 = 2 := by simp [codeOf, hs, hx]
      rw [e] at hc
      simp only [hs, hx, if_true, if_false]
      refine AC.of_run mo Tryd.func13 Tryd.call13 ⟨rfl, Tryd.ntmps13, Tryd.results13, by kernel_rfl⟩ rfl ?_
      repeat' (first | simp only [go_sem, ↓reduceIte, Nat.reduceEqDiff, Nat.reduceAdd, Nat.reduceMul, Nat.reduceSub, Nat.reduceLeDiff, Nat.reduceLT, Nat.reduceBEq, Nat.reduceBNe, Int.reduceLT, Int.reduceLE, Int.reduceEq, Int.reduceNeg, Int.reduceToNat, Int.toNat_natCast, Int.natCast_nonneg, List.length_append, List.length_map, List.length_replicate, Bool.and_eq_true, decide_eq_true_eq, List.length_take, List.length_drop, Int.reduceSub, Int.reduceAdd, Int.reduceMul, Int.sub_zero, Int.add_zero, Int.zero_add, reduceCtorEq, decide_true, decide_false, Bool.false_eq_true, List.reduceReplicate, *] | simp (disch := omega) only [wrap_i64, wrap_u8, Int.tdiv_eq_ediv_of_nonneg, Int.tmod_eq_emod_of_nonneg, if_pos] | (refine callP_0 (hc ..) (rfl) (rfl) ?_) | (refine callX_ac (hc ..) (rfl) (rfl) ?_) | refine callP_x ?_ | (refine ret_gen (by first | exact .inr rfl | exact .inl rfl) (rfl) ?_) | (refine guardP_split (fun _ => ?_) (fun _ => ?_)) | (refine condP_split (fun _ => ?_) (fun _ => ?_)) | (refine guardP_splitB (fun _ => ?_) (fun _ => ?_)) | (refine condP_splitB (fun _ => ?_) (fun _ => ?_)))
  · have e : codeOf t m p a b x 0 = 1 := by simp [codeOf, hs]
    rw [e] at hc
    simp only [hs, if_false]
    refine AC.of_run mo Tryd.func13 Tryd.call13 ⟨rfl, Tryd.ntmps13, Tryd.results13, by kernel_rfl⟩ rfl ?_
    repeat' (first | simp only [go_sem, ↓reduceIte, Nat.reduceEqDiff, Nat.reduceAdd, Nat.reduceMul, Nat.reduceSub, Nat.reduceLeDiff, Nat.reduceLT, Nat.reduceBEq, Nat.reduceBNe, Int.reduceLT, Int.reduceLE, Int.reduceEq, Int.reduceNeg, Int.reduceToNat, Int.toNat_natCast, Int.natCast_nonneg, List.length_append, List.length_map, List.length_replicate, Bool.and_eq_true, decide_eq_true_eq, List.length_take, List.length_drop, Int.reduceSub, Int.reduceAdd, Int.reduceMul, Int.sub_zero, Int.add_zero, Int.zero_add, reduceCtorEq, decide_true, decide_false, Bool.false_eq_true, List.reduceReplicate, *] | simp (disch := omega) only [wrap_i64, wrap_u8, Int.tdiv_eq_ediv_of_nonneg, Int.tmod_eq_emod_of_nonneg, if_pos] | (refine callP_0 (hc ..) (rfl) (rfl) ?_) | (refine callX_ac (hc ..) (rfl) (rfl) ?_) | refine callP_x ?_ | (refine ret_gen (by first | exact .inr rfl | exact .inl rfl) (rfl) ?_) | (refine guardP_split (fun _ => ?_) (fun _ => ?_)) | (refine condP_split (fun _ => ?_) (fun _ => ?_)) | (refine guardP_splitB (fun _ => ?_) (fun _ => ?_)) | (refine condP_splitB (fun _ => ?_) (fun _ => ?_)))
end
end Go.Ab
