/- The contracts of functions on names, sums and words. Conditions: none. -/
import Derived.Test.YtjoomndcdpkplaaDoorCShape
namespace Go.Ab
open Go.RowKit Go.Proofs
set_option maxRecDepth 10000
set_option maxHeartbeats 4000000
set_option linter.unusedSimpArgs false
set_option linter.unusedVariables false
def sumL (l : List UInt8) : Nat := (l.map (·.toNat)).sum
theorem sumL_take (l : List UInt8) (i : Nat) (h : i < l.length) : sumL (l.take (i + 1)) = sumL (l.take i) + (l[i]).toNat := by
  simp only [sumL, List.take_add_one, List.getElem?_eq_getElem h, List.map_append, List.sum_append, Option.toList_some, List.map_cons, List.map_nil, List.sum_cons, List.sum_nil, Nat.add_zero]
theorem sumL_le (l : List UInt8) : sumL l ≤ 255 * l.length := by
  induction l with
  | nil => simp [sumL]
  | cons b l ih =>
    have := b.toNat_lt
    simp only [sumL, List.map_cons, List.sum_cons, List.length_cons] at ih ⊢
    omega
theorem iSum16_ac (l : List UInt8) (hl : l.length ≤ 4294967296) : AC Tryd.prog 28 [.str l] (.int .i64 ((sumL l % 65536 : Nat) : Int)) := by
  refine AC.of_run mo Tryd.func28 Tryd.call28 ⟨rfl, Tryd.ntmps28, Tryd.results28, by kernel_rfl⟩ rfl ?_
  simp only [go_sem, ↓reduceIte, Nat.reduceEqDiff, Nat.reduceAdd, Nat.reduceMul, Nat.reduceSub, Nat.reduceLeDiff, Nat.reduceLT, Nat.reduceBEq, Nat.reduceBNe, Int.reduceLT, Int.reduceLE, Int.reduceEq, Int.reduceNeg, Int.reduceToNat, Int.toNat_natCast, Int.natCast_nonneg, List.length_append, List.length_map, List.length_replicate, Bool.and_eq_true, decide_eq_true_eq, List.length_take, List.length_drop, Int.reduceSub, Int.reduceAdd, Int.reduceMul, Int.sub_zero, Int.add_zero, Int.zero_add, reduceCtorEq, decide_true, decide_false, Bool.false_eq_true, List.reduceReplicate]
  refine sx_loop (fun m s => ∃ i, i ≤ l.length ∧ m = l.length - i ∧ s.τ 0 = .str l ∧ s.τ 6 = .int .i64 l.length ∧ s.τ 7 = .int .i64 (i : Int) ∧ s.τ 3 = .int .i64 (sumL (l.take i) : Int)) l.length ⟨0, by simp [go_sem, sumL]⟩ ?_
  rintro m s ⟨i, hi, rfl, h0, h6, h7, h3⟩
  (try simp only [go_sem, ↓reduceIte, Nat.reduceEqDiff, Nat.reduceAdd, Nat.reduceMul, Nat.reduceSub, Nat.reduceLeDiff, Nat.reduceLT, Nat.reduceBEq, Nat.reduceBNe, Int.reduceLT, Int.reduceLE, Int.reduceEq, Int.reduceNeg, Int.reduceToNat, Int.toNat_natCast, Int.natCast_nonneg, List.length_append, List.length_map, List.length_replicate, Bool.and_eq_true, decide_eq_true_eq, List.length_take, List.length_drop, Int.reduceSub, Int.reduceAdd, Int.reduceMul, Int.sub_zero, Int.add_zero, Int.zero_add, reduceCtorEq, decide_true, decide_false, Bool.false_eq_true, List.reduceReplicate, *]); (try simp (disch := omega) only [wrap_i64, wrap_u8, Int.tdiv_eq_ediv_of_nonneg, Int.tmod_eq_emod_of_nonneg, if_pos])
  refine condP_split (fun h => ?_) (fun h => ?_)
  · have hlt : i < l.length := by omega
    have hb := (l[i]).toNat_lt
    have hs := sumL_le (l.take i)
    rw [List.length_take] at hs
    have hg := List.getElem?_eq_getElem hlt
    (try simp only [go_sem, ↓reduceIte, Nat.reduceEqDiff, Nat.reduceAdd, Nat.reduceMul, Nat.reduceSub, Nat.reduceLeDiff, Nat.reduceLT, Nat.reduceBEq, Nat.reduceBNe, Int.reduceLT, Int.reduceLE, Int.reduceEq, Int.reduceNeg, Int.reduceToNat, Int.toNat_natCast, Int.natCast_nonneg, List.length_append, List.length_map, List.length_replicate, Bool.and_eq_true, decide_eq_true_eq, List.length_take, List.length_drop, Int.reduceSub, Int.reduceAdd, Int.reduceMul, Int.sub_zero, Int.add_zero, Int.zero_add, reduceCtorEq, decide_true, decide_false, Bool.false_eq_true, List.reduceReplicate, *]); (try simp (disch := omega) only [wrap_i64, wrap_u8, Int.tdiv_eq_ediv_of_nonneg, Int.tmod_eq_emod_of_nonneg, if_pos])
    refine ⟨l.length - (i + 1), by omega, i + 1, by omega, rfl, ?_⟩
    simp only [sumL_take l i hlt, Int.natCast_add, Int.cast_ofNat_Int, and_self]
  · have e : i = l.length := by omega
    subst e
    (try simp only [go_sem, ↓reduceIte, Nat.reduceEqDiff, Nat.reduceAdd, Nat.reduceMul, Nat.reduceSub, Nat.reduceLeDiff, Nat.reduceLT, Nat.reduceBEq, Nat.reduceBNe, Int.reduceLT, Int.reduceLE, Int.reduceEq, Int.reduceNeg, Int.reduceToNat, Int.toNat_natCast, Int.natCast_nonneg, List.length_append, List.length_map, List.length_replicate, Bool.and_eq_true, decide_eq_true_eq, List.length_take, List.length_drop, Int.reduceSub, Int.reduceAdd, Int.reduceMul, Int.sub_zero, Int.add_zero, Int.zero_add, reduceCtorEq, decide_true, decide_false, Bool.false_eq_true, List.reduceReplicate, *, List.take_length]); (try simp (disch := omega) only [wrap_i64, wrap_u8, Int.tdiv_eq_ediv_of_nonneg, Int.tmod_eq_emod_of_nonneg, if_pos])
    exact tmod_nat (sumL l) 65536
def isUp (b : UInt8) : Prop := 65 ≤ b.toNat ∧ b.toNat ≤ 90
def isDig (b : UInt8) : Prop := 48 ≤ b.toNat ∧ b.toNat ≤ 57
instance (b : UInt8) : Decidable (isUp b) := by unfold isUp; infer_instance
instance (b : UInt8) : Decidable (isDig b) := by unfold isDig; infer_instance
def nameCh (b : UInt8) : Prop := isUp b ∨ isDig b ∨ b.toNat = 95
instance (b : UInt8) : Decidable (nameCh b) := by unfold nameCh; infer_instance
def nameOk (l : List UInt8) : Prop := 1 ≤ l.length ∧ l.length ≤ 8 ∧ (∃ b, l[0]? = some b ∧ isUp b) ∧ ∀ b ∈ l, nameCh b
theorem not_name {l : List UInt8} {i : Nat} (hlt : i < l.length) (h : ¬ nameCh l[i]) : ¬ nameOk l := fun hn => h (hn.2.2.2 _ (List.getElem_mem hlt))
theorem take_all {l : List UInt8} {i : Nat} (hlt : i < l.length) (h : ∀ b ∈ l.take i, nameCh b) (hi : nameCh l[i]) : ∀ b ∈ l.take (i + 1), nameCh b := by
  intro b hb
  rw [List.take_add_one, List.getElem?_eq_getElem hlt, List.mem_append] at hb
  rcases hb with hb | hb
  · exact h b hb
  · simp only [Option.toList_some, List.mem_singleton] at hb
    rw [hb]; exact hi
noncomputable instance (l : List UInt8) : Decidable (nameOk l) := Classical.propDecidable _
theorem iIsName_ac (l : List UInt8) : AC Tryd.prog 40 [.str l] (.bool (decide (nameOk l))) := by
  refine AC.of_run mo Tryd.func40 Tryd.call40 ⟨rfl, Tryd.ntmps40, Tryd.results40, by kernel_rfl⟩ rfl ?_
  repeat' (first | simp only [go_sem, ↓reduceIte, Nat.reduceEqDiff, Nat.reduceAdd, Nat.reduceMul, Nat.reduceSub, Nat.reduceLeDiff, Nat.reduceLT, Nat.reduceBEq, Nat.reduceBNe, Int.reduceLT, Int.reduceLE, Int.reduceEq, Int.reduceNeg, Int.reduceToNat, Int.toNat_natCast, Int.natCast_nonneg, List.length_append, List.length_map, List.length_replicate, Bool.and_eq_true, decide_eq_true_eq, List.length_take, List.length_drop, Int.reduceSub, Int.reduceAdd, Int.reduceMul, Int.sub_zero, Int.add_zero, Int.zero_add, reduceCtorEq, decide_true, decide_false, Bool.false_eq_true, List.reduceReplicate, *] | simp (disch := omega) only [wrap_i64, wrap_u8, Int.tdiv_eq_ediv_of_nonneg, Int.tmod_eq_emod_of_nonneg, if_pos] | refine callP_x ?_ | (refine ret_gen (by first | exact .inr rfl | exact .inl rfl) (rfl) ?_) | (refine guardP_split (fun _ => ?_) (fun _ => ?_)) | (refine condP_split (fun _ => ?_) (fun _ => ?_)) | (refine guardP_splitB (fun _ => ?_) (fun _ => ?_)) | (refine condP_splitB (fun _ => ?_) (fun _ => ?_)))
  · symm; rw [decide_eq_false_iff_not]; unfold nameOk; omega
  · symm; rw [decide_eq_false_iff_not]; unfold nameOk; omega
  have hlt : 0 < l.length := by omega
  have hg := List.getElem?_eq_getElem hlt
  (try simp only [go_sem, ↓reduceIte, Nat.reduceEqDiff, Nat.reduceAdd, Nat.reduceMul, Nat.reduceSub, Nat.reduceLeDiff, Nat.reduceLT, Nat.reduceBEq, Nat.reduceBNe, Int.reduceLT, Int.reduceLE, Int.reduceEq, Int.reduceNeg, Int.reduceToNat, Int.toNat_natCast, Int.natCast_nonneg, List.length_append, List.length_map, List.length_replicate, Bool.and_eq_true, decide_eq_true_eq, List.length_take, List.length_drop, Int.reduceSub, Int.reduceAdd, Int.reduceMul, Int.sub_zero, Int.add_zero, Int.zero_add, reduceCtorEq, decide_true, decide_false, Bool.false_eq_true, List.reduceReplicate, *]); (try simp (disch := omega) only [wrap_i64, wrap_u8, Int.tdiv_eq_ediv_of_nonneg, Int.tmod_eq_emod_of_nonneg, if_pos])
  repeat' (first | simp only [go_sem, ↓reduceIte, Nat.reduceEqDiff, Nat.reduceAdd, Nat.reduceMul, Nat.reduceSub, Nat.reduceLeDiff, Nat.reduceLT, Nat.reduceBEq, Nat.reduceBNe, Int.reduceLT, Int.reduceLE, Int.reduceEq, Int.reduceNeg, Int.reduceToNat, Int.toNat_natCast, Int.natCast_nonneg, List.length_append, List.length_map, List.length_replicate, Bool.and_eq_true, decide_eq_true_eq, List.length_take, List.length_drop, Int.reduceSub, Int.reduceAdd, Int.reduceMul, Int.sub_zero, Int.add_zero, Int.zero_add, reduceCtorEq, decide_true, decide_false, Bool.false_eq_true, List.reduceReplicate, *] | simp (disch := omega) only [wrap_i64, wrap_u8, Int.tdiv_eq_ediv_of_nonneg, Int.tmod_eq_emod_of_nonneg, if_pos] | refine callP_x ?_ | (refine ret_gen (by first | exact .inr rfl | exact .inl rfl) (rfl) ?_) | (refine guardP_split (fun _ => ?_) (fun _ => ?_)) | (refine condP_split (fun _ => ?_) (fun _ => ?_)) | (refine guardP_splitB (fun _ => ?_) (fun _ => ?_)) | (refine condP_splitB (fun _ => ?_) (fun _ => ?_)))
  · symm; rw [decide_eq_false_iff_not]; rintro ⟨_, _, ⟨b, hb, hu⟩, _⟩; rw [List.getElem?_eq_getElem hlt] at hb; cases hb; unfold isUp at hu; omega
  · symm; rw [decide_eq_false_iff_not]; rintro ⟨_, _, ⟨b, hb, hu⟩, _⟩; rw [List.getElem?_eq_getElem hlt] at hb; cases hb; unfold isUp at hu; omega
  have h1 : isUp l[0] := by unfold isUp; omega
  refine sx_loop (fun m s => ∃ i, i ≤ l.length ∧ m = l.length - i ∧ s.τ 0 = .str l ∧ s.τ 24 = .int .i64 l.length ∧ s.τ 25 = .int .i64 (i : Int) ∧ ∀ b ∈ l.take i, nameCh b) l.length ⟨0, by simp [go_sem]⟩ ?_
  rintro m s ⟨i, hi, rfl, h0, h24, h25, hall⟩
  (try simp only [go_sem, ↓reduceIte, Nat.reduceEqDiff, Nat.reduceAdd, Nat.reduceMul, Nat.reduceSub, Nat.reduceLeDiff, Nat.reduceLT, Nat.reduceBEq, Nat.reduceBNe, Int.reduceLT, Int.reduceLE, Int.reduceEq, Int.reduceNeg, Int.reduceToNat, Int.toNat_natCast, Int.natCast_nonneg, List.length_append, List.length_map, List.length_replicate, Bool.and_eq_true, decide_eq_true_eq, List.length_take, List.length_drop, Int.reduceSub, Int.reduceAdd, Int.reduceMul, Int.sub_zero, Int.add_zero, Int.zero_add, reduceCtorEq, decide_true, decide_false, Bool.false_eq_true, List.reduceReplicate, *]); (try simp (disch := omega) only [wrap_i64, wrap_u8, Int.tdiv_eq_ediv_of_nonneg, Int.tmod_eq_emod_of_nonneg, if_pos])
  refine condP_split (fun h => ?_) (fun h => ?_)
  · have hlt : i < l.length := by omega
    have hg := List.getElem?_eq_getElem hlt
    (try simp only [go_sem, ↓reduceIte, Nat.reduceEqDiff, Nat.reduceAdd, Nat.reduceMul, Nat.reduceSub, Nat.reduceLeDiff, Nat.reduceLT, Nat.reduceBEq, Nat.reduceBNe, Int.reduceLT, Int.reduceLE, Int.reduceEq, Int.reduceNeg, Int.reduceToNat, Int.toNat_natCast, Int.natCast_nonneg, List.length_append, List.length_map, List.length_replicate, Bool.and_eq_true, decide_eq_true_eq, List.length_take, List.length_drop, Int.reduceSub, Int.reduceAdd, Int.reduceMul, Int.sub_zero, Int.add_zero, Int.zero_add, reduceCtorEq, decide_true, decide_false, Bool.false_eq_true, List.reduceReplicate, *]); (try simp (disch := omega) only [wrap_i64, wrap_u8, Int.tdiv_eq_ediv_of_nonneg, Int.tmod_eq_emod_of_nonneg, if_pos])
    repeat' (first | simp only [go_sem, ↓reduceIte, Nat.reduceEqDiff, Nat.reduceAdd, Nat.reduceMul, Nat.reduceSub, Nat.reduceLeDiff, Nat.reduceLT, Nat.reduceBEq, Nat.reduceBNe, Int.reduceLT, Int.reduceLE, Int.reduceEq, Int.reduceNeg, Int.reduceToNat, Int.toNat_natCast, Int.natCast_nonneg, List.length_append, List.length_map, List.length_replicate, Bool.and_eq_true, decide_eq_true_eq, List.length_take, List.length_drop, Int.reduceSub, Int.reduceAdd, Int.reduceMul, Int.sub_zero, Int.add_zero, Int.zero_add, reduceCtorEq, decide_true, decide_false, Bool.false_eq_true, List.reduceReplicate, *] | simp (disch := omega) only [wrap_i64, wrap_u8, Int.tdiv_eq_ediv_of_nonneg, Int.tmod_eq_emod_of_nonneg, if_pos] | refine callP_x ?_ | (refine ret_gen (by first | exact .inr rfl | exact .inl rfl) (rfl) ?_) | (refine guardP_split (fun _ => ?_) (fun _ => ?_)) | (refine condP_split (fun _ => ?_) (fun _ => ?_)) | (refine guardP_splitB (fun _ => ?_) (fun _ => ?_)) | (refine condP_splitB (fun _ => ?_) (fun _ => ?_)))
    all_goals first
      | (exfalso; omega)
      | (symm; rw [decide_eq_false_iff_not]; refine not_name hlt ?_; unfold nameCh isUp isDig; omega)
      | (refine ⟨l.length - (i + 1), by omega, i + 1, by omega, rfl, by simp only [Int.natCast_add, Int.cast_ofNat_Int], take_all hlt hall ?_⟩; unfold nameCh isUp isDig; omega)
  · have e : i = l.length := by omega
    subst e
    repeat' (first | simp only [go_sem, ↓reduceIte, Nat.reduceEqDiff, Nat.reduceAdd, Nat.reduceMul, Nat.reduceSub, Nat.reduceLeDiff, Nat.reduceLT, Nat.reduceBEq, Nat.reduceBNe, Int.reduceLT, Int.reduceLE, Int.reduceEq, Int.reduceNeg, Int.reduceToNat, Int.toNat_natCast, Int.natCast_nonneg, List.length_append, List.length_map, List.length_replicate, Bool.and_eq_true, decide_eq_true_eq, List.length_take, List.length_drop, Int.reduceSub, Int.reduceAdd, Int.reduceMul, Int.sub_zero, Int.add_zero, Int.zero_add, reduceCtorEq, decide_true, decide_false, Bool.false_eq_true, List.reduceReplicate, *] | simp (disch := omega) only [wrap_i64, wrap_u8, Int.tdiv_eq_ediv_of_nonneg, Int.tmod_eq_emod_of_nonneg, if_pos] | refine callP_x ?_ | (refine ret_gen (by first | exact .inr rfl | exact .inl rfl) (rfl) ?_) | (refine guardP_split (fun _ => ?_) (fun _ => ?_)) | (refine condP_split (fun _ => ?_) (fun _ => ?_)) | (refine guardP_splitB (fun _ => ?_) (fun _ => ?_)) | (refine condP_splitB (fun _ => ?_) (fun _ => ?_)))
    symm; rw [decide_eq_true_iff]
    exact ⟨by omega, by omega, ⟨l[0], List.getElem?_eq_getElem hlt, h1⟩, by simpa using hall⟩
theorem u8w (x : Int) : IntKind.u8.wrap x = x % 256 := by simp [IntKind.wrap, IntKind.bits, IntKind.signed]
def w16 (n : Int) : List UInt8 := [UInt8.ofNat (n / 256).toNat, UInt8.ofNat (n % 256).toNat]
theorem w16_len (n : Int) : (w16 n).length = 2 := (rfl)
attribute [go_sem] w16_len
theorem iPutWord_ac (n : Int) (h : 0 ≤ n ∧ n ≤ 65535) : AC Tryd.prog 27 [.int .i64 n] (.str (w16 n)) := by
  refine AC.of_run mo Tryd.func27 Tryd.call27 ⟨rfl, Tryd.ntmps27, Tryd.results27, by kernel_rfl⟩ rfl ?_
  repeat' (first | simp only [go_sem, ↓reduceIte, Nat.reduceEqDiff, Nat.reduceAdd, Nat.reduceMul, Nat.reduceSub, Nat.reduceLeDiff, Nat.reduceLT, Nat.reduceBEq, Nat.reduceBNe, Int.reduceLT, Int.reduceLE, Int.reduceEq, Int.reduceNeg, Int.reduceToNat, Int.toNat_natCast, Int.natCast_nonneg, List.length_append, List.length_map, List.length_replicate, Bool.and_eq_true, decide_eq_true_eq, List.length_take, List.length_drop, Int.reduceSub, Int.reduceAdd, Int.reduceMul, Int.sub_zero, Int.add_zero, Int.zero_add, reduceCtorEq, decide_true, decide_false, Bool.false_eq_true, List.reduceReplicate, *] | simp (disch := omega) only [wrap_i64, wrap_u8, Int.tdiv_eq_ediv_of_nonneg, Int.tmod_eq_emod_of_nonneg, if_pos] | (refine callP_0 (within_ac ..) (rfl) (rfl) ?_) | (refine callX_ac (within_ac ..) (rfl) (rfl) ?_) | refine callP_x ?_ | (refine ret_gen (by first | exact .inr rfl | exact .inl rfl) (rfl) ?_) | (refine guardP_split (fun _ => ?_) (fun _ => ?_)) | (refine condP_split (fun _ => ?_) (fun _ => ?_)) | (refine guardP_splitB (fun _ => ?_) (fun _ => ?_)) | (refine condP_splitB (fun _ => ?_) (fun _ => ?_)))
  have e : (2 : Int) ^ min 8 64 = 256 := by decide
  rw [u8w, u8w, Int.fdiv_eq_ediv_of_nonneg _ (by rw [e]; decide), w16]
  congr 3
  · congr 1; rw [e]; omega
end Go.Ab
