/- The program function DumpCart returns what the function of the reference returns, for all arguments. Conditions: those of the row alone. -/
import Derived.Test.YtkpcbgoljkccbaaRows
import Derived.Test.YtkpcbgoljkccbaaCPoke
import Derived.WalkKit
import Derived.ProofKit
import Derived.OpenShut
import Derived.ShutString
import Derived.ChangeOld
import Derived.Below
import Derived.SizedLaws
namespace Go.Proofs.Ytkpcbgoljkccbaa.fnExactDumpCart
open Go.ChangeShapes Go.WideShapes Go.ChangeAt Go.RowKit Go.Ab
open Go.ChangeMaps (open_string shut_string)
set_option linter.unusedVariables false
set_option linter.unusedSimpArgs false
theorem own : ownKnob Try.prog.godebug = none := by kernel_rfl
theorem laid : laidOutB Try.prog = true := by kernel_rfl
set_option maxRecDepth 10000
theorem law0 (t : List UInt8) (m : Int) (p : List UInt8) (a b : Int) (h1 : t.length ≤ maxLen) (h2 : p.length ≤ maxLen) : AC Try.prog 5 [.agg [.str t, .int .i64 m, .str p, .int .i64 a, .int .i64 b]] (.bool true) := by
  refine AC.of_run mo Try.func5 Try.call5 ⟨rfl, Try.ntmps5, Try.results5, by kernel_rfl⟩ rfl ?_
  by_cases hsz : (t.length : Int) + p.length ≤ 1048576
  · have hp : p.length ≤ 1048576 := by omega
    have hi := iDumpCart_ac t m p a b hp
    have hs := sDumpCart_ac t m p a b hp
    unfold dumpCart at hi hs
    by_cases hc : stOk t m p a b
    · rw [if_pos hc] at hi hs
      repeat' (first | simp only [go_sem, ↓reduceIte, Nat.reduceEqDiff, Nat.reduceAdd, Nat.reduceMul, Nat.reduceSub, Nat.reduceLeDiff, Nat.reduceLT, Nat.reduceBEq, Nat.reduceBNe, Int.reduceLT, Int.reduceLE, Int.reduceEq, Int.reduceNeg, Int.reduceToNat, Int.toNat_natCast, Int.natCast_nonneg, List.length_append, List.length_map, List.length_replicate, Bool.and_eq_true, decide_eq_true_eq, List.length_take, List.length_drop, Int.reduceSub, Int.reduceAdd, Int.reduceMul, Int.sub_zero, Int.add_zero, Int.zero_add, reduceCtorEq, decide_true, decide_false, Bool.false_eq_true, List.reduceReplicate, *] | simp (disch := omega) only [wrap_i64, wrap_u8, Int.tdiv_eq_ediv_of_nonneg, Int.tmod_eq_emod_of_nonneg, if_pos] | (refine callP_0 (toState_ac ..) (rfl) (rfl) ?_) | (refine callP_0 (szState_ac _ _ _ _ _ _ h1 h2 (by omega)) (rfl) (rfl) ?_) | (refine callP_0 (hi ..) (rfl) (rfl) ?_) | (refine callP_0 (hs ..) (rfl) (rfl) ?_) | (refine callX_ac (toState_ac ..) (rfl) (rfl) ?_) | (refine callX_ac (szState_ac _ _ _ _ _ _ h1 h2 (by omega)) (rfl) (rfl) ?_) | (refine callX_ac (hi ..) (rfl) (rfl) ?_) | (refine callX_ac (hs ..) (rfl) (rfl) ?_) | refine callP_x ?_ | (refine ret_gen (by first | exact .inr rfl | exact .inl rfl) (rfl) ?_) | (refine guardP_split (fun _ => ?_) (fun _ => ?_)) | (refine condP_split (fun _ => ?_) (fun _ => ?_)) | (refine guardP_splitB (fun _ => ?_) (fun _ => ?_)) | (refine condP_splitB (fun _ => ?_) (fun _ => ?_)))
    · rw [if_neg hc] at hi hs
      repeat' (first | simp only [go_sem, ↓reduceIte, Nat.reduceEqDiff, Nat.reduceAdd, Nat.reduceMul, Nat.reduceSub, Nat.reduceLeDiff, Nat.reduceLT, Nat.reduceBEq, Nat.reduceBNe, Int.reduceLT, Int.reduceLE, Int.reduceEq, Int.reduceNeg, Int.reduceToNat, Int.toNat_natCast, Int.natCast_nonneg, List.length_append, List.length_map, List.length_replicate, Bool.and_eq_true, decide_eq_true_eq, List.length_take, List.length_drop, Int.reduceSub, Int.reduceAdd, Int.reduceMul, Int.sub_zero, Int.add_zero, Int.zero_add, reduceCtorEq, decide_true, decide_false, Bool.false_eq_true, List.reduceReplicate, *] | simp (disch := omega) only [wrap_i64, wrap_u8, Int.tdiv_eq_ediv_of_nonneg, Int.tmod_eq_emod_of_nonneg, if_pos] | (refine callP_0 (toState_ac ..) (rfl) (rfl) ?_) | (refine callP_0 (szState_ac _ _ _ _ _ _ h1 h2 (by omega)) (rfl) (rfl) ?_) | (refine callP_0 (hi ..) (rfl) (rfl) ?_) | (refine callP_0 (hs ..) (rfl) (rfl) ?_) | (refine callX_ac (toState_ac ..) (rfl) (rfl) ?_) | (refine callX_ac (szState_ac _ _ _ _ _ _ h1 h2 (by omega)) (rfl) (rfl) ?_) | (refine callX_ac (hi ..) (rfl) (rfl) ?_) | (refine callX_ac (hs ..) (rfl) (rfl) ?_) | refine callP_x ?_ | (refine ret_gen (by first | exact .inr rfl | exact .inl rfl) (rfl) ?_) | (refine guardP_split (fun _ => ?_) (fun _ => ?_)) | (refine condP_split (fun _ => ?_) (fun _ => ?_)) | (refine guardP_splitB (fun _ => ?_) (fun _ => ?_)) | (refine condP_splitB (fun _ => ?_) (fun _ => ?_)))
  · repeat' (first | simp only [go_sem, ↓reduceIte, Nat.reduceEqDiff, Nat.reduceAdd, Nat.reduceMul, Nat.reduceSub, Nat.reduceLeDiff, Nat.reduceLT, Nat.reduceBEq, Nat.reduceBNe, Int.reduceLT, Int.reduceLE, Int.reduceEq, Int.reduceNeg, Int.reduceToNat, Int.toNat_natCast, Int.natCast_nonneg, List.length_append, List.length_map, List.length_replicate, Bool.and_eq_true, decide_eq_true_eq, List.length_take, List.length_drop, Int.reduceSub, Int.reduceAdd, Int.reduceMul, Int.sub_zero, Int.add_zero, Int.zero_add, reduceCtorEq, decide_true, decide_false, Bool.false_eq_true, List.reduceReplicate, *] | simp (disch := omega) only [wrap_i64, wrap_u8, Int.tdiv_eq_ediv_of_nonneg, Int.tmod_eq_emod_of_nonneg, if_pos] | (refine callP_0 (toState_ac ..) (rfl) (rfl) ?_) | (refine callP_0 (szState_ac _ _ _ _ _ _ h1 h2 (by omega)) (rfl) (rfl) ?_) | (refine callX_ac (toState_ac ..) (rfl) (rfl) ?_) | (refine callX_ac (szState_ac _ _ _ _ _ _ h1 h2 (by omega)) (rfl) (rfl) ?_) | refine callP_x ?_ | (refine ret_gen (by first | exact .inr rfl | exact .inl rfl) (rfl) ?_) | (refine guardP_split (fun _ => ?_) (fun _ => ?_)) | (refine condP_split (fun _ => ?_) (fun _ => ?_)) | (refine guardP_splitB (fun _ => ?_) (fun _ => ?_)) | (refine condP_splitB (fun _ => ?_) (fun _ => ?_)))
theorem law (xs : List AV) (h : DatA Try.prog [40] xs) : AC Try.prog 5 xs (.bool true) := by
  simp only [go_sem] at h
  obtain ⟨x, r, rfl, ⟨cs, rfl, hcs⟩, rfl⟩ := h
  obtain ⟨c0, r0, rfl, ⟨d0, q0, rfl, ⟨t, rfl, h1⟩, d1, q1, rfl, ⟨m, rfl, _⟩, d2, q2, rfl, ⟨p, rfl, h2⟩, rfl⟩, c1, r1, rfl, ⟨a, rfl, _⟩, c2, r2, rfl, ⟨b, rfl, _⟩, rfl⟩ := hcs
  exact law0 t m p a b h1 h2
set_option maxRecDepth 100000 in
theorem lifted (os : Os) (started : os.Started) (H : Type) (enc : TypeId × Value → H) :
    ReturnsInHanded {} Try.checked os 5 .any (Rows.fnExactDumpCartSpec.pre6 enc Try.prog Try.f5 Rows.fnExactDumpCartRow.domain false) (Rows.fnExactDumpCartSpec.post enc Try.prog Try.f5 false true false false) := by
  refine returnsInHanded_of_change_sized (C := Try.checked) own started (by kernel_rfl) Try.func5
    (ChangeSpec.witness6 (enc := enc) (C := Try.checked) false ⟨#[], #[.agg #[.string ⟨#[]⟩, .int .i64 0, .string ⟨#[]⟩, .int .i64 0, .int .i64 0]], []⟩ 8 (by kernel_rfl) (by kernel_rfl) (by kernel_rfl) (by kernel_rfl)) ?_
  intro W base args ds gs before hval0 hW hcnd hsz0 _
  have hval : ∀ (j : Nat) t v, Try.f5.params[j]? = some t → args[j]? = some v → Value.okWide Try.prog W .any base t v := hval0
  have hW' := hW
  obtain ⟨p, q, hA0, hV, rfl, hfz, hnd⟩ := hW
  have hA : DataW.TrodAll enc Try.prog W 0 (fun _ => true) true Try.f5.params.toList args.toList ds p := hA0
  rw [Try.params5] at hA hval
  obtain ⟨rfl, rfl⟩ := trodVars_none hV
  have hl : ds.length = 1 := trodAll_len hA
  clear hA0 hval0 hsz0
  refine (law_calls laid (by kernel_rfl) (by kernel_rfl) hA (fun j t v h h' => hval j t v (by simpa using h) h') law).mono fun e W' ⟨he, bel, hB⟩ => ?_
  subst he
  match ds, hl with
  | [d0], _ => exact ⟨_, rfl, [d0], [], _, [], _, [], hW', trodAll_mk1 (shut_bool Try.underlying4 _), hB, rfl, bel.frame _, fun h => by cases h⟩
theorem over : Rows.fnExactDumpCartRow.holds Try.pinned (OpenSpec.ofChange Rows.fnExactDumpCartSpec) :=
  OpenClaim.holds_of_wide 5 Try.f5 rfl rfl rfl rfl rfl rfl rfl ⟨rfl, rfl, rfl, rfl, rfl⟩ rfl rfl rfl rfl rfl (by kernel_rfl) Try.func5 (by kernel_rfl)
    (of_decide_eq_true (by kernel_rfl)) (by unfold Func.isWrapper; first | (rw [if_pos (by decide +kernel)]; kernel_rfl) | (rw [if_neg (by decide +kernel)]; exact ⟨rfl, rfl⟩))
    (fun os started H enc _ => lifted os started H enc)
theorem proved : Rows.FnExactDumpCartSaid := over
end Go.Proofs.Ytkpcbgoljkccbaa.fnExactDumpCart
namespace Go.Proofs.Ytkpcbgoljkccbaa
/-- The row, under a short name, for the claim. -/
theorem fnExactDumpCart_holds : Rows.FnExactDumpCartSaid := fnExactDumpCart.proved
end Go.Proofs.Ytkpcbgoljkccbaa
#print axioms Go.Proofs.Ytkpcbgoljkccbaa.fnExactDumpCart_holds
