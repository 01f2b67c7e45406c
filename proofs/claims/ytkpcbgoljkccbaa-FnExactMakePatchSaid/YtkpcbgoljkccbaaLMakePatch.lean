/- The program function MakePatch returns what the function of the reference returns, for all arguments. Conditions: those of the row alone. -/
import Derived.Test.YtkpcbgoljkccbaaRows
import Derived.Test.YtkpcbgoljkccbaaCMake
import Derived.Test.YtkpcbgoljkccbaaCMarkP
import Derived.WalkKit
import Derived.ProofKit
import Derived.OpenShut
import Derived.ShutString
import Derived.ChangeOld
import Derived.Below
import Derived.SizedLaws
namespace Go.Proofs.Ytkpcbgoljkccbaa.fnExactMakePatch
open Go.ChangeShapes Go.WideShapes Go.ChangeAt Go.RowKit Go.Ab
open Go.ChangeMaps (open_string shut_string)
set_option linter.unusedVariables false
set_option linter.unusedSimpArgs false
theorem own : ownKnob Try.prog.godebug = none := by kernel_rfl
theorem laid : laidOutB Try.prog = true := by kernel_rfl
set_option maxRecDepth 10000
attribute [local go_sem] hunkV_eq
theorem law0 (a b : List UInt8) (ha : a.length ≤ maxLen) (hb : b.length ≤ maxLen) : AC Try.prog 11 [.str a, .str b] (.bool true) := by
  by_cases hp : pMax a b
  · have hi := iMakePatch_ac a b hp
    have hs := sMakePatch_ac a b hp
    have hl := hunksL_len (chgs a b (max a.length b.length))
    rw [chgs_len] at hl
    generalize hunksL (chgs a b (max a.length b.length)) = L at hi hs hl
    have hL : L.length ≤ 512 := by have h1 := hp.1; have h2 := hp.2; omega
    have q := eqPatch_ac ⟨a.length, b.length, (crcL 65535 a : Nat), (crcL 65535 b : Nat), L⟩ ⟨a.length, b.length, (crcL 65535 a : Nat), (crcL 65535 b : Nat), L⟩ (by show L.length ≤ _; omega)
    rw [decide_eq_true rfl, patchV_eq] at q
    have hh := heldPatch_ac a.length b.length (crcL 65535 a : Nat) (crcL 65535 b : Nat) 1 L.length (by omega) (by omega)
    have htk : (L.map hunkV).take L.length = L.map hunkV := List.take_of_length_le (by simp)
    have hml := hms_len 1 L.length
    have htm : ((hms 1 L.length).map hunkV).take L.length = (hms 1 L.length).map hunkV := List.take_of_length_le (by simp [hml])
    have e1 : ((1 : Nat) : Int) = 1 := rfl
    rw [e1] at hh
    have hpos : ¬ ((1 + 3 * L.length : Nat) : Int) < 0 := by omega
    have hp1 := hp.1
    have hp2 := hp.2
    refine AC.of_run mo Try.func11 Try.call11 ⟨rfl, Try.ntmps11, Try.results11, by kernel_rfl⟩ rfl ?_
    repeat' (first | simp only [go_sem, ↓reduceIte, Nat.reduceEqDiff, Nat.reduceAdd, Nat.reduceMul, Nat.reduceSub, Nat.reduceLeDiff, Nat.reduceLT, Nat.reduceBEq, Nat.reduceBNe, Int.reduceLT, Int.reduceLE, Int.reduceEq, Int.reduceNeg, Int.reduceToNat, Int.toNat_natCast, Int.natCast_nonneg, List.length_append, List.length_map, List.length_replicate, Bool.and_eq_true, decide_eq_true_eq, List.length_take, List.length_drop, Int.reduceSub, Int.reduceAdd, Int.reduceMul, Int.sub_zero, Int.add_zero, Int.zero_add, reduceCtorEq, decide_true, decide_false, Bool.false_eq_true, List.reduceReplicate, *] | simp (disch := omega) only [wrap_i64, wrap_u8, Int.tdiv_eq_ediv_of_nonneg, Int.tmod_eq_emod_of_nonneg, if_pos] | (refine callP_0 (hi ..) (rfl) (rfl) ?_) | (refine callP_0 (hs ..) (rfl) (rfl) ?_) | (refine callP_0 (q ..) (rfl) (rfl) ?_) | (refine callP_0 (hh ..) (rfl) (rfl) ?_) | (refine callX_ac (hi ..) (rfl) (rfl) ?_) | (refine callX_ac (hs ..) (rfl) (rfl) ?_) | (refine callX_ac (q ..) (rfl) (rfl) ?_) | (refine callX_ac (hh ..) (rfl) (rfl) ?_) | (refine callP_aw (markPatch_aw _ _ _ _ 1 L.length _ _ _ L (by omega) (by omega) rfl (by simp [go_sem]) (by decide)) ?_) | refine callP_x ?_ | (refine ret_gen (by first | exact .inr rfl | exact .inl rfl) (rfl) ?_) | (refine guardP_split (fun _ => ?_) (fun _ => ?_)) | (refine condP_split (fun _ => ?_) (fun _ => ?_)) | (refine guardP_splitB (fun _ => ?_) (fun _ => ?_)) | (refine condP_splitB (fun _ => ?_) (fun _ => ?_)))
    all_goals omega
  · have hi := iMakeBad_ac a b hp
    have hs := sMakeBad_ac a b hp
    have q := eqPatch_ac ⟨0, 0, 0, 0, []⟩ ⟨0, 0, 0, 0, []⟩ (by decide)
    rw [decide_eq_true rfl, patchV_eq] at q
    have hh := heldPatch_ac 0 0 0 0 1 0 (by omega) (by omega)
    have e1 : ((1 : Nat) : Int) = 1 := rfl
    have e3 : (hms 1 0).map hunkV = [] := rfl
    rw [e1, e3] at hh
    have hm : ∀ g H, H 6002 = some ⟨3, [], g, true⟩ → AW Try.prog 45 [.agg [.int .i64 0, .int .i64 0, .int .i64 0, .int .i64 0, .ref 6002 g 0 0], .int .i64 1] H (.int .i64 1) _ := fun g H h => markPatch_aw 0 0 0 0 1 0 6002 g H [] (by omega) (by omega) rfl h (by decide)
    refine AC.of_run mo Try.func11 Try.call11 ⟨rfl, Try.ntmps11, Try.results11, by kernel_rfl⟩ rfl ?_
    repeat' (first | simp only [go_sem, ↓reduceIte, Nat.reduceEqDiff, Nat.reduceAdd, Nat.reduceMul, Nat.reduceSub, Nat.reduceLeDiff, Nat.reduceLT, Nat.reduceBEq, Nat.reduceBNe, Int.reduceLT, Int.reduceLE, Int.reduceEq, Int.reduceNeg, Int.reduceToNat, Int.toNat_natCast, Int.natCast_nonneg, List.length_append, List.length_map, List.length_replicate, Bool.and_eq_true, decide_eq_true_eq, List.length_take, List.length_drop, Int.reduceSub, Int.reduceAdd, Int.reduceMul, Int.sub_zero, Int.add_zero, Int.zero_add, reduceCtorEq, decide_true, decide_false, Bool.false_eq_true, List.reduceReplicate, *] | simp (disch := omega) only [wrap_i64, wrap_u8, Int.tdiv_eq_ediv_of_nonneg, Int.tmod_eq_emod_of_nonneg, if_pos] | (refine callP_0 (hi ..) (rfl) (rfl) ?_) | (refine callP_0 (hs ..) (rfl) (rfl) ?_) | (refine callP_0 (q ..) (rfl) (rfl) ?_) | (refine callP_0 (hh ..) (rfl) (rfl) ?_) | (refine callX_ac (hi ..) (rfl) (rfl) ?_) | (refine callX_ac (hs ..) (rfl) (rfl) ?_) | (refine callX_ac (q ..) (rfl) (rfl) ?_) | (refine callX_ac (hh ..) (rfl) (rfl) ?_) | (refine callP_aw (hm _ _ (by simp [go_sem])) ?_) | refine callP_x ?_ | (refine ret_gen (by first | exact .inr rfl | exact .inl rfl) (rfl) ?_) | (refine guardP_split (fun _ => ?_) (fun _ => ?_)) | (refine condP_split (fun _ => ?_) (fun _ => ?_)) | (refine guardP_splitB (fun _ => ?_) (fun _ => ?_)) | (refine condP_splitB (fun _ => ?_) (fun _ => ?_)))
    all_goals done
theorem law (xs : List AV) (h : DatA Try.prog [9, 9] xs) : AC Try.prog 11 xs (.bool true) := by
  simp only [go_sem] at h
  obtain ⟨x, r, rfl, hx, y, r2, rfl, hy, rfl⟩ := h
  obtain ⟨a, ha, h1⟩ := hx
  obtain ⟨b, hb, h2⟩ := hy
  simp only [List.cons.injEq, and_true] at ha hb
  subst ha hb
  exact law0 a b h1 h2
set_option maxRecDepth 100000 in
theorem lifted (os : Os) (started : os.Started) (H : Type) (enc : TypeId × Value → H) :
    ReturnsInHanded {} Try.checked os 11 .any (Rows.fnExactMakePatchSpec.pre6 enc Try.prog Try.f11 Rows.fnExactMakePatchRow.domain false) (Rows.fnExactMakePatchSpec.post enc Try.prog Try.f11 false true false false) := by
  refine returnsInHanded_of_change_sized (C := Try.checked) own started (by kernel_rfl) Try.func11
    (ChangeSpec.witness6 (enc := enc) (C := Try.checked) false ⟨#[], #[.string ⟨#[]⟩, .string ⟨#[]⟩], []⟩ 8 (by kernel_rfl) (by kernel_rfl) (by kernel_rfl) (by kernel_rfl)) ?_
  intro W base args ds gs before hval0 hW hcnd hsz0 _
  have hval : ∀ (j : Nat) t v, Try.f11.params[j]? = some t → args[j]? = some v → Value.okWide Try.prog W .any base t v := hval0
  have hW' := hW
  obtain ⟨p, q, hA0, hV, rfl, hfz, hnd⟩ := hW
  have hA : DataW.TrodAll enc Try.prog W 0 (fun _ => true) true Try.f11.params.toList args.toList ds p := hA0
  rw [Try.params11] at hA hval
  obtain ⟨rfl, rfl⟩ := trodVars_none hV
  have hl : ds.length = 2 := trodAll_len hA
  clear hA0 hval0 hsz0
  refine (law_calls laid (by kernel_rfl) (by kernel_rfl) hA (fun j t v h h' => hval j t v (by simpa using h) h') law).mono fun e W' ⟨he, bel, hB⟩ => ?_
  subst he
  match ds, hl with
  | [d0, d1], _ => exact ⟨_, rfl, [d0, d1], [], _, [], _, [], hW', trodAll_mk1 (shut_bool Try.underlying4 _), hB, rfl, bel.frame _, fun h => by cases h⟩
theorem over : Rows.fnExactMakePatchRow.holds Try.pinned (OpenSpec.ofChange Rows.fnExactMakePatchSpec) :=
  OpenClaim.holds_of_wide 11 Try.f11 rfl rfl rfl rfl rfl rfl rfl ⟨rfl, rfl, rfl, rfl, rfl⟩ rfl rfl rfl rfl rfl (by kernel_rfl) Try.func11 (by kernel_rfl)
    (of_decide_eq_true (by kernel_rfl)) (by unfold Func.isWrapper; first | (rw [if_pos (by decide +kernel)]; kernel_rfl) | (rw [if_neg (by decide +kernel)]; exact ⟨rfl, rfl⟩))
    (fun os started H enc _ => lifted os started H enc)
theorem proved : Rows.FnExactMakePatchSaid := over
end Go.Proofs.Ytkpcbgoljkccbaa.fnExactMakePatch
namespace Go.Proofs.Ytkpcbgoljkccbaa
/-- The row, under a short name, for the claim. -/
theorem fnExactMakePatch_holds : Rows.FnExactMakePatchSaid := fnExactMakePatch.proved
end Go.Proofs.Ytkpcbgoljkccbaa
#print axioms Go.Proofs.Ytkpcbgoljkccbaa.fnExactMakePatch_holds
