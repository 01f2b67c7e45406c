/- The contracts of functions that build and read cartridges. Conditions: none. -/
import Derived.Test.YtjoomndcdpkplaaDoorCCart
namespace Go.Ab
open Go.RowKit Go.Proofs
set_option maxRecDepth 10000
set_option maxHeartbeats 4000000
set_option linter.unusedSimpArgs false
set_option linter.unusedVariables false
noncomputable section
def blanks (n : Nat) : List UInt8 := List.replicate n 32
def pad8 (t : List UInt8) : List UInt8 := t ++ blanks (8 - t.length)
def cartHead (m : Int) (p : List UInt8) : List UInt8 := [67, 65, 82, 84] ++ [UInt8.ofNat ((p.length : Int) / 64).toNat, UInt8.ofNat m.toNat] ++ w16 ((sumL p % 65536 : Nat) : Int)
def cartFile (t : List UInt8) (m : Int) (p : List UInt8) : List UInt8 := cartHead m p ++ pad8 t ++ p
theorem take8 (t : List UInt8) (h : t.length ≤ 8) : (t ++ [32, 32, 32, 32, 32, 32, 32, 32]).take 8 = pad8 t := by
  have e : ([32, 32, 32, 32, 32, 32, 32, 32] : List UInt8) = blanks 8 := rfl
  rw [e, List.take_append, pad8, List.take_of_length_le h, blanks, blanks, List.take_replicate]
  congr 2
  omega
theorem sumL_mod (p : List UInt8) : (0 : Int) ≤ ((sumL p % 65536 : Nat) : Int) ∧ ((sumL p % 65536 : Nat) : Int) ≤ 65535 := by omega
theorem cartHead_len (m : Int) (p : List UInt8) : (cartHead m p).length = 8 := (rfl)
theorem blanks_len (n : Nat) : (blanks n).length = n := by simp [blanks]
theorem blanks_succ (n : Nat) : blanks n ++ [32] = blanks (n + 1) := by simp [blanks, List.replicate_succ']
attribute [go_sem] cartHead_len blanks_len
theorem iBuild_ac (t : List UInt8) (m : Int) (p : List UInt8) (h : cartOk t m p) : AC Tryd.prog 24 [.agg [.str t, .int .i64 m, .str p]] (.str (cartFile t m p)) := by
  have hp : p.length ≤ 1048576 := by have := h.2.2.1; have := h.2.2.2.1; omega
  have hm := h.2.1
  have hb := h.2.2.2.1
  have ht := h.1.2.1
  refine AC.of_run mo Tryd.func24 Tryd.call24 ⟨rfl, Tryd.ntmps24, Tryd.results24, by kernel_rfl⟩ rfl ?_
  repeat' (first | simp only [go_sem, ↓reduceIte, Nat.reduceEqDiff, Nat.reduceAdd, Nat.reduceMul, Nat.reduceSub, Nat.reduceLeDiff, Nat.reduceLT, Nat.reduceBEq, Nat.reduceBNe, Int.reduceLT, Int.reduceLE, Int.reduceEq, Int.reduceNeg, Int.reduceToNat, Int.toNat_natCast, Int.natCast_nonneg, List.length_append, List.length_map, List.length_replicate, Bool.and_eq_true, decide_eq_true_eq, List.length_take, List.length_drop, Int.reduceSub, Int.reduceAdd, Int.reduceMul, Int.sub_zero, Int.add_zero, Int.zero_add, reduceCtorEq, decide_true, decide_false, Bool.false_eq_true, List.reduceReplicate, *] | simp (disch := omega) only [wrap_i64, wrap_u8, Int.tdiv_eq_ediv_of_nonneg, Int.tmod_eq_emod_of_nonneg, if_pos] | (refine callP_0 (banks_ac _ _ _ hp) (rfl) (rfl) ?_) | (refine callP_0 (iSum16_ac _ (by omega)) (rfl) (rfl) ?_) | (refine callP_0 (iPutWord_ac _ (sumL_mod p)) (rfl) (rfl) ?_) | (refine callX_ac (banks_ac _ _ _ hp) (rfl) (rfl) ?_) | (refine callX_ac (iSum16_ac _ (by omega)) (rfl) (rfl) ?_) | (refine callX_ac (iPutWord_ac _ (sumL_mod p)) (rfl) (rfl) ?_) | refine callP_x ?_ | (refine ret_gen (by first | exact .inr rfl | exact .inl rfl) (rfl) ?_) | (refine guardP_split (fun _ => ?_) (fun _ => ?_)) | (refine condP_split (fun _ => ?_) (fun _ => ?_)) | (refine guardP_splitB (fun _ => ?_) (fun _ => ?_)) | (refine condP_splitB (fun _ => ?_) (fun _ => ?_)))
  simp only [take8 t ht, cartFile, cartHead, List.append_assoc, List.cons_append, List.nil_append]
def buildCart (t : List UInt8) (m : Int) (p : List UInt8) : AV := if cartOk t m p then .tup [.str (cartFile t m p), .int .i64 0] else .tup [.str [], .int .i64 1]
theorem iBuildCart_ac (t : List UInt8) (m : Int) (p : List UInt8) (h : p.length ≤ 1048576) : AC Tryd.prog 11 [.agg [.str t, .int .i64 m, .str p]] (buildCart t m p) := by
  unfold buildCart
  split
  · rename_i hc
    refine AC.of_run mo Tryd.func11 Tryd.call11 ⟨rfl, Tryd.ntmps11, Tryd.results11, by kernel_rfl⟩ rfl ?_
    repeat' (first | simp only [go_sem, ↓reduceIte, Nat.reduceEqDiff, Nat.reduceAdd, Nat.reduceMul, Nat.reduceSub, Nat.reduceLeDiff, Nat.reduceLT, Nat.reduceBEq, Nat.reduceBNe, Int.reduceLT, Int.reduceLE, Int.reduceEq, Int.reduceNeg, Int.reduceToNat, Int.toNat_natCast, Int.natCast_nonneg, List.length_append, List.length_map, List.length_replicate, Bool.and_eq_true, decide_eq_true_eq, List.length_take, List.length_drop, Int.reduceSub, Int.reduceAdd, Int.reduceMul, Int.sub_zero, Int.add_zero, Int.zero_add, reduceCtorEq, decide_true, decide_false, Bool.false_eq_true, List.reduceReplicate, *] | simp (disch := omega) only [wrap_i64, wrap_u8, Int.tdiv_eq_ediv_of_nonneg, Int.tmod_eq_emod_of_nonneg, if_pos] | (refine callP_0 (iValidCart_ac _ _ _ h) (rfl) (rfl) ?_) | (refine callP_0 (iBuild_ac _ _ _ hc) (rfl) (rfl) ?_) | (refine callX_ac (iValidCart_ac _ _ _ h) (rfl) (rfl) ?_) | (refine callX_ac (iBuild_ac _ _ _ hc) (rfl) (rfl) ?_) | refine callP_x ?_ | (refine ret_gen (by first | exact .inr rfl | exact .inl rfl) (rfl) ?_) | (refine guardP_split (fun _ => ?_) (fun _ => ?_)) | (refine condP_split (fun _ => ?_) (fun _ => ?_)) | (refine guardP_splitB (fun _ => ?_) (fun _ => ?_)) | (refine condP_splitB (fun _ => ?_) (fun _ => ?_)))
  · refine AC.of_run mo Tryd.func11 Tryd.call11 ⟨rfl, Tryd.ntmps11, Tryd.results11, by kernel_rfl⟩ rfl ?_
    repeat' (first | simp only [go_sem, ↓reduceIte, Nat.reduceEqDiff, Nat.reduceAdd, Nat.reduceMul, Nat.reduceSub, Nat.reduceLeDiff, Nat.reduceLT, Nat.reduceBEq, Nat.reduceBNe, Int.reduceLT, Int.reduceLE, Int.reduceEq, Int.reduceNeg, Int.reduceToNat, Int.toNat_natCast, Int.natCast_nonneg, List.length_append, List.length_map, List.length_replicate, Bool.and_eq_true, decide_eq_true_eq, List.length_take, List.length_drop, Int.reduceSub, Int.reduceAdd, Int.reduceMul, Int.sub_zero, Int.add_zero, Int.zero_add, reduceCtorEq, decide_true, decide_false, Bool.false_eq_true, List.reduceReplicate, *] | simp (disch := omega) only [wrap_i64, wrap_u8, Int.tdiv_eq_ediv_of_nonneg, Int.tmod_eq_emod_of_nonneg, if_pos] | (refine callP_0 (iValidCart_ac _ _ _ h) (rfl) (rfl) ?_) | (refine callX_ac (iValidCart_ac _ _ _ h) (rfl) (rfl) ?_) | refine callP_x ?_ | (refine ret_gen (by first | exact .inr rfl | exact .inl rfl) (rfl) ?_) | (refine guardP_split (fun _ => ?_) (fun _ => ?_)) | (refine condP_split (fun _ => ?_) (fun _ => ?_)) | (refine guardP_splitB (fun _ => ?_) (fun _ => ?_)) | (refine condP_splitB (fun _ => ?_) (fun _ => ?_)))
end
end Go.Ab
