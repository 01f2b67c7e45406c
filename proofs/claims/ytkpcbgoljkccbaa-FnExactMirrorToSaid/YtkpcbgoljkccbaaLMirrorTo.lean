/- The program function MirrorTo returns what the function of the reference returns, for all arguments. Conditions: those of the row alone. -/
import Derived.Test.YtkpcbgoljkccbaaRows
import Derived.Test.YtkpcbgoljkccbaaCRepeat
import Derived.WalkKit
import Derived.ProofKit
import Derived.OpenShut
import Derived.ShutString
import Derived.ChangeOld
import Derived.Below
import Derived.SizedLaws
namespace Go.Proofs.Ytkpcbgoljkccbaa.fnExactMirrorTo
open Go.ChangeShapes Go.WideShapes Go.ChangeAt Go.RowKit Go.Ab
open Go.ChangeMaps (open_string shut_string)
set_option linter.unusedVariables false
set_option linter.unusedSimpArgs false
theorem own : ownKnob Try.prog.godebug = none := by kernel_rfl
theorem laid : laidOutB Try.prog = true := by kernel_rfl
set_option maxRecDepth 10000
theorem mirR_two (l : List UInt8) (n : Int) : ∃ x y, mirR l n = .tup [.str x, .int .i64 y] := by
  unfold mirR
  split
  · exact ⟨_, _, rfl⟩
  · split
    · exact ⟨_, _, rfl⟩
    · exact ⟨_, _, rfl⟩
theorem law0 (l : List UInt8) (n : Int) (h : l.length ≤ maxLen) : AC Try.prog 7 [.str l, .int .i64 n] (.bool true) := by
  refine AC.of_run mo Try.func7 Try.call7 ⟨rfl, Try.ntmps7, Try.results7, by kernel_rfl⟩ rfl ?_
  by_cases hl : l.length ≤ 1048576
  · have hi := iMirrorTo_ac l n hl
    have hs := sMirrorTo_ac l n hl
    obtain ⟨x, y, hxy⟩ := mirR_two l n
    rw [hxy] at hi hs
    repeat' (first | simp only [go_sem, ↓reduceIte, Nat.reduceEqDiff, Nat.reduceAdd, Nat.reduceMul, Nat.reduceSub, Nat.reduceLeDiff, Nat.reduceLT, Nat.reduceBEq, Nat.reduceBNe, Int.reduceLT, Int.reduceLE, Int.reduceEq, Int.reduceNeg, Int.reduceToNat, Int.toNat_natCast, Int.natCast_nonneg, List.length_append, List.length_map, List.length_replicate, Bool.and_eq_true, decide_eq_true_eq, List.length_take, List.length_drop, Int.reduceSub, Int.reduceAdd, Int.reduceMul, Int.sub_zero, Int.add_zero, Int.zero_add, reduceCtorEq, decide_true, decide_false, Bool.false_eq_true, List.reduceReplicate, *] | simp (disch := omega) only [wrap_i64, wrap_u8, Int.tdiv_eq_ediv_of_nonneg, Int.tmod_eq_emod_of_nonneg, if_pos] | (refine callP_0 (hi ..) (rfl) (rfl) ?_) | (refine callP_0 (hs ..) (rfl) (rfl) ?_) | (refine callX_ac (hi ..) (rfl) (rfl) ?_) | (refine callX_ac (hs ..) (rfl) (rfl) ?_) | refine callP_x ?_ | (refine ret_gen (by first | exact .inr rfl | exact .inl rfl) (rfl) ?_) | (refine guardP_split (fun _ => ?_) (fun _ => ?_)) | (refine condP_split (fun _ => ?_) (fun _ => ?_)) | (refine guardP_splitB (fun _ => ?_) (fun _ => ?_)) | (refine condP_splitB (fun _ => ?_) (fun _ => ?_)))
  · repeat' (first | simp only [go_sem, ↓reduceIte, Nat.reduceEqDiff, Nat.reduceAdd, Nat.reduceMul, Nat.reduceSub, Nat.reduceLeDiff, Nat.reduceLT, Nat.reduceBEq, Nat.reduceBNe, Int.reduceLT, Int.reduceLE, Int.reduceEq, Int.reduceNeg, Int.reduceToNat, Int.toNat_natCast, Int.natCast_nonneg, List.length_append, List.length_map, List.length_replicate, Bool.and_eq_true, decide_eq_true_eq, List.length_take, List.length_drop, Int.reduceSub, Int.reduceAdd, Int.reduceMul, Int.sub_zero, Int.add_zero, Int.zero_add, reduceCtorEq, decide_true, decide_false, Bool.false_eq_true, List.reduceReplicate, *] | simp (disch := omega) only [wrap_i64, wrap_u8, Int.tdiv_eq_ediv_of_nonneg, Int.tmod_eq_emod_of_nonneg, if_pos] | refine callP_x ?_ | (refine ret_gen (by first | exact .inr rfl | exact .inl rfl) (rfl) ?_) | (refine guardP_split (fun _ => ?_) (fun _ => ?_)) | (refine condP_split (fun _ => ?_) (fun _ => ?_)) | (refine guardP_splitB (fun _ => ?_) (fun _ => ?_)) | (refine condP_splitB (fun _ => ?_) (fun _ => ?_)))
    all_goals omega
theorem law (xs : List AV) (h : DatA Try.prog [9, 2] xs) : AC Try.prog 7 xs (.bool true) := by
  simp only [go_sem] at h
  obtain ⟨x, r, rfl, hx, y, r2, rfl, hy, rfl⟩ := h
  obtain ⟨a, ha, h1⟩ := hx
  obtain ⟨b, hb, _⟩ := hy
  simp only [List.cons.injEq, and_true] at ha hb
  subst ha hb
  exact law0 a b h1
set_option maxRecDepth 100000 in
theorem lifted (os : Os) (started : os.Started) (H : Type) (enc : TypeId × Value → H) :
    ReturnsInHanded {} Try.checked os 7 .any (Rows.fnExactMirrorToSpec.pre6 enc Try.prog Try.f7 Rows.fnExactMirrorToRow.domain false) (Rows.fnExactMirrorToSpec.post enc Try.prog Try.f7 false true false false) := by
  refine returnsInHanded_of_change_sized (C := Try.checked) own started (by kernel_rfl) Try.func7
    (ChangeSpec.witness6 (enc := enc) (C := Try.checked) false ⟨#[], #[.string ⟨#[]⟩, .int .i64 0], []⟩ 8 (by kernel_rfl) (by kernel_rfl) (by kernel_rfl) (by kernel_rfl)) ?_
  intro W base args ds gs before hval0 hW hcnd hsz0 _
  have hval : ∀ (j : Nat) t v, Try.f7.params[j]? = some t → args[j]? = some v → Value.okWide Try.prog W .any base t v := hval0
  have hW' := hW
  obtain ⟨p, q, hA0, hV, rfl, hfz, hnd⟩ := hW
  have hA : DataW.TrodAll enc Try.prog W 0 (fun _ => true) true Try.f7.params.toList args.toList ds p := hA0
  rw [Try.params7] at hA hval
  obtain ⟨rfl, rfl⟩ := trodVars_none hV
  have hl : ds.length = 2 := trodAll_len hA
  clear hA0 hval0 hsz0
  refine (law_calls laid (by kernel_rfl) (by kernel_rfl) hA (fun j t v h h' => hval j t v (by simpa using h) h') law).mono fun e W' ⟨he, bel, hB⟩ => ?_
  subst he
  match ds, hl with
  | [d0, d1], _ => exact ⟨_, rfl, [d0, d1], [], _, [], _, [], hW', trodAll_mk1 (shut_bool Try.underlying4 _), hB, rfl, bel.frame _, fun h => by cases h⟩
theorem over : Rows.fnExactMirrorToRow.holds Try.pinned (OpenSpec.ofChange Rows.fnExactMirrorToSpec) :=
  OpenClaim.holds_of_wide 7 Try.f7 rfl rfl rfl rfl rfl rfl rfl ⟨rfl, rfl, rfl, rfl, rfl⟩ rfl rfl rfl rfl rfl (by kernel_rfl) Try.func7 (by kernel_rfl)
    (of_decide_eq_true (by kernel_rfl)) (by unfold Func.isWrapper; first | (rw [if_pos (by decide +kernel)]; kernel_rfl) | (rw [if_neg (by decide +kernel)]; exact ⟨rfl, rfl⟩))
    (fun os started H enc _ => lifted os started H enc)
theorem proved : Rows.FnExactMirrorToSaid := over
end Go.Proofs.Ytkpcbgoljkccbaa.fnExactMirrorTo
namespace Go.Proofs.Ytkpcbgoljkccbaa
/-- The row, under a short name, for the claim. -/
theorem fnExactMirrorTo_holds : Rows.FnExactMirrorToSaid := fnExactMirrorTo.proved
end Go.Proofs.Ytkpcbgoljkccbaa
#print axioms Go.Proofs.Ytkpcbgoljkccbaa.fnExactMirrorTo_holds
