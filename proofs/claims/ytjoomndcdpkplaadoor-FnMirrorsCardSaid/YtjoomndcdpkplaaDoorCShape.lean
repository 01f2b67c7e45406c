/- The contracts behind a law on shapes. Conditions: none. -/
import Derived.Test.YtjoomndcdpkplaaDoorFacts
namespace Go.Ab
open Go.RowKit Go.Proofs
set_option maxRecDepth 10000
set_option maxHeartbeats 4000000
set_option linter.unusedSimpArgs false
set_option linter.unusedVariables false
theorem cast0 : ((0 : Nat) : Int) = 0 := (rfl)
attribute [go_sem] cast0
theorem within_ac (x lo hi : Int) : AC Tryd.prog 31 [.int .i64 x, .int .i64 lo, .int .i64 hi] (.bool (decide (lo ≤ x ∧ x ≤ hi))) := by
  refine AC.of_run mo Tryd.func31 Tryd.call31 ⟨rfl, Tryd.ntmps31, Tryd.results31, by kernel_rfl⟩ rfl ?_
  repeat' (first | simp only [go_sem, ↓reduceIte, Nat.reduceEqDiff, Nat.reduceAdd, Nat.reduceMul, Nat.reduceSub, Nat.reduceLeDiff, Nat.reduceLT, Nat.reduceBEq, Nat.reduceBNe, Int.reduceLT, Int.reduceLE, Int.reduceEq, Int.reduceNeg, Int.reduceToNat, Int.toNat_natCast, Int.natCast_nonneg, List.length_append, List.length_map, List.length_replicate, Bool.and_eq_true, decide_eq_true_eq, List.length_take, List.length_drop, Int.reduceSub, Int.reduceAdd, Int.reduceMul, Int.sub_zero, Int.add_zero, Int.zero_add, reduceCtorEq, decide_true, decide_false, Bool.false_eq_true, List.reduceReplicate, *] | simp (disch := omega) only [wrap_i64, wrap_u8, Int.tdiv_eq_ediv_of_nonneg, Int.tmod_eq_emod_of_nonneg, if_pos] | refine callP_x ?_ | (refine ret_gen (by first | exact .inr rfl | exact .inl rfl) (rfl) ?_) | (refine guardP_split (fun _ => ?_) (fun _ => ?_)) | (refine condP_split (fun _ => ?_) (fun _ => ?_)) | (refine guardP_splitB (fun _ => ?_) (fun _ => ?_)) | (refine condP_splitB (fun _ => ?_) (fun _ => ?_)))
def geom (c h p s : Int) : Prop := (1 ≤ c ∧ c ≤ 8) ∧ (1 ≤ h ∧ h ≤ 2) ∧ (1 ≤ p ∧ p ≤ 8) ∧ 0 ≤ s ∧ s ≤ 2
instance (c h p s : Int) : Decidable (geom c h p s) := by unfold geom; infer_instance
def shapeOk (sys c h p sk ce : Int) : Prop := (1 ≤ sys ∧ sys ≤ 3) ∧ geom c h p 2 ∧ (0 ≤ sk ∧ sk ≤ 7) ∧ 4 ≤ ce ∧ ce ≤ 200
instance (sys c h p sk ce : Int) : Decidable (shapeOk sys c h p sk ce) := by unfold shapeOk; infer_instance
end Go.Ab
