/- The contracts of functions on names, sums and words. Conditions: none. -/
import Derived.Test.YthdbfnjekbnbkaaCShape
namespace Go.Ab
open Go.RowKit Go.Proofs
set_option maxRecDepth 10000
set_option maxHeartbeats 4000000
set_option linter.unusedSimpArgs false
set_option linter.unusedVariables false
def sumL (l : List UInt8) : Nat := (l.map (·.toNat)).sum
theorem sumL_take (l : List UInt8) (i : Nat) (h : i < l.length) : sumL (l.take (i + 1)) = sumL (l.take i) + (l[i]).toNat := by
  simp only [sumL, List.take_add_one, List.getElem?_eq_getElem h, List.map_append, List.sum_append, Option.toList_some, List.map_cons, List.map_nil, List.sum_cons, List.sum_nil, Nat.add_zero]
theorem sumL_le (l : List UInt8) : sumL l ≤ 255 * l.length := by
  induction l with
  | nil => simp [sumL]
  | cons b l ih =>
    have := b.toNat_lt
    simp only [sumL, List.map_cons, List.sum_cons, List.length_cons] at ih ⊢
    omega
def isUp (b : UInt8) : Prop := 65 ≤ b.toNat ∧ b.toNat ≤ 90
def isDig (b : UInt8) : Prop := 48 ≤ b.toNat ∧ b.toNat ≤ 57
instance (b : UInt8) : Decidable (isUp b) := by unfold isUp; infer_instance
instance (b : UInt8) : Decidable (isDig b) := by unfold isDig; infer_instance
def nameCh (b : UInt8) : Prop := isUp b ∨ isDig b ∨ b.toNat = 95
instance (b : UInt8) : Decidable (nameCh b) := by unfold nameCh; infer_instance
def nameOk (l : List UInt8) : Prop := 1 ≤ l.length ∧ l.length ≤ 8 ∧ (∃ b, l[0]? = some b ∧ isUp b) ∧ ∀ b ∈ l, nameCh b
theorem not_name {l : List UInt8} {i : Nat} (hlt : i < l.length) (h : ¬ nameCh l[i]) : ¬ nameOk l := fun hn => h (hn.2.2.2 _ (List.getElem_mem hlt))
theorem take_all {l : List UInt8} {i : Nat} (hlt : i < l.length) (h : ∀ b ∈ l.take i, nameCh b) (hi : nameCh l[i]) : ∀ b ∈ l.take (i + 1), nameCh b := by
  intro b hb
  rw [List.take_add_one, List.getElem?_eq_getElem hlt, List.mem_append] at hb
  rcases hb with hb | hb
  · exact h b hb
  · simp only [Option.toList_some, List.mem_singleton] at hb
    rw [hb]; exact hi
noncomputable instance (l : List UInt8) : Decidable (nameOk l) := Classical.propDecidable _
theorem u8w (x : Int) : IntKind.u8.wrap x = x % 256 := by simp [IntKind.wrap, IntKind.bits, IntKind.signed]
def w16 (n : Int) : List UInt8 := [UInt8.ofNat (n / 256).toNat, UInt8.ofNat (n % 256).toNat]
theorem w16_len (n : Int) : (w16 n).length = 2 := (rfl)
attribute [go_sem] w16_len
theorem iPutWord_ac (n : Int) (h : 0 ≤ n ∧ n ≤ 65535) : AC Try.prog 76 [.int .i64 n] (.str (w16 n)) := by
  refine AC.of_run mo Try.func76 Try.call76 ⟨rfl, Try.ntmps76, Try.results76, by kernel_rfl⟩ rfl ?_
  repeat' (first | simp only [go_sem, ↓reduceIte, Nat.reduceEqDiff, Nat.reduceAdd, Nat.reduceMul, Nat.reduceSub, Nat.reduceLeDiff, Nat.reduceLT, Nat.reduceBEq, Nat.reduceBNe, Int.reduceLT, Int.reduceLE, Int.reduceEq, Int.reduceNeg, Int.reduceToNat, Int.toNat_natCast, Int.natCast_nonneg, List.length_append, List.length_map, List.length_replicate, Bool.and_eq_true, decide_eq_true_eq, List.length_take, List.length_drop, Int.reduceSub, Int.reduceAdd, Int.reduceMul, Int.sub_zero, Int.add_zero, Int.zero_add, reduceCtorEq, decide_true, decide_false, Bool.false_eq_true, List.reduceReplicate, *] | simp (disch := omega) only [wrap_i64, wrap_u8, Int.tdiv_eq_ediv_of_nonneg, Int.tmod_eq_emod_of_nonneg, if_pos] | (refine callP_0 (within_ac ..) (rfl) (rfl) ?_) | (refine callX_ac (within_ac ..) (rfl) (rfl) ?_) | refine callP_x ?_ | (refine ret_gen (by first | exact .inr rfl | exact .inl rfl) (rfl) ?_) | (refine guardP_split (fun _ => ?_) (fun _ => ?_)) | (refine condP_split (fun _ => ?_) (fun _ => ?_)) | (refine guardP_splitB (fun _ => ?_) (fun _ => ?_)) | (refine condP_splitB (fun _ => ?_) (fun _ => ?_)))
  have e : (2 : Int) ^ min 8 64 = 256 := by decide
  rw [u8w, u8w, Int.fdiv_eq_ediv_of_nonneg _ (by rw [e]; decide), w16]
  congr 3
  · congr 1; rw [e]; omega
theorem sWord_ac (n : Int) (h : 0 ≤ n ∧ n ≤ 65535) : AC Try.prog 113 [.int .i64 n] (.str (w16 n)) := by
  refine AC.of_run mo Try.func113 Try.call113 ⟨rfl, Try.ntmps113, Try.results113, by kernel_rfl⟩ rfl ?_
  repeat' (first | simp only [go_sem, ↓reduceIte, Nat.reduceEqDiff, Nat.reduceAdd, Nat.reduceMul, Nat.reduceSub, Nat.reduceLeDiff, Nat.reduceLT, Nat.reduceBEq, Nat.reduceBNe, Int.reduceLT, Int.reduceLE, Int.reduceEq, Int.reduceNeg, Int.reduceToNat, Int.toNat_natCast, Int.natCast_nonneg, List.length_append, List.length_map, List.length_replicate, Bool.and_eq_true, decide_eq_true_eq, List.length_take, List.length_drop, Int.reduceSub, Int.reduceAdd, Int.reduceMul, Int.sub_zero, Int.add_zero, Int.zero_add, reduceCtorEq, decide_true, decide_false, Bool.false_eq_true, List.reduceReplicate, *] | simp (disch := omega) only [wrap_i64, wrap_u8, Int.tdiv_eq_ediv_of_nonneg, Int.tmod_eq_emod_of_nonneg, if_pos] | refine callP_x ?_ | (refine ret_gen (by first | exact .inr rfl | exact .inl rfl) (rfl) ?_) | (refine guardP_split (fun _ => ?_) (fun _ => ?_)) | (refine condP_split (fun _ => ?_) (fun _ => ?_)) | (refine guardP_splitB (fun _ => ?_) (fun _ => ?_)) | (refine condP_splitB (fun _ => ?_) (fun _ => ?_)))
  rfl
theorem sPutWord_ac (n : Int) (h : 0 ≤ n ∧ n ≤ 65535) : AC Try.prog 108 [.int .i64 n] (.str (w16 n)) := by
  refine AC.of_run mo Try.func108 Try.call108 ⟨rfl, Try.ntmps108, Try.results108, by kernel_rfl⟩ rfl ?_
  repeat' (first | simp only [go_sem, ↓reduceIte, Nat.reduceEqDiff, Nat.reduceAdd, Nat.reduceMul, Nat.reduceSub, Nat.reduceLeDiff, Nat.reduceLT, Nat.reduceBEq, Nat.reduceBNe, Int.reduceLT, Int.reduceLE, Int.reduceEq, Int.reduceNeg, Int.reduceToNat, Int.toNat_natCast, Int.natCast_nonneg, List.length_append, List.length_map, List.length_replicate, Bool.and_eq_true, decide_eq_true_eq, List.length_take, List.length_drop, Int.reduceSub, Int.reduceAdd, Int.reduceMul, Int.sub_zero, Int.add_zero, Int.zero_add, reduceCtorEq, decide_true, decide_false, Bool.false_eq_true, List.reduceReplicate, *] | simp (disch := omega) only [wrap_i64, wrap_u8, Int.tdiv_eq_ediv_of_nonneg, Int.tmod_eq_emod_of_nonneg, if_pos] | (refine callP_0 (l00In_ac ..) (rfl) (rfl) ?_) | (refine callP_0 (sWord_ac _ h) (rfl) (rfl) ?_) | (refine callX_ac (l00In_ac ..) (rfl) (rfl) ?_) | (refine callX_ac (sWord_ac _ h) (rfl) (rfl) ?_) | refine callP_x ?_ | (refine ret_gen (by first | exact .inr rfl | exact .inl rfl) (rfl) ?_) | (refine guardP_split (fun _ => ?_) (fun _ => ?_)) | (refine condP_split (fun _ => ?_) (fun _ => ?_)) | (refine guardP_splitB (fun _ => ?_) (fun _ => ?_)) | (refine condP_splitB (fun _ => ?_) (fun _ => ?_)))
end Go.Ab
