/- The contract of strings.Repeat, and of the functions that repeat. Conditions: none. -/
import Derived.Test.YtjoomndcdpkplaaDoorCList
import Derived.Shelf.Strings.Repeat
namespace Go.Ab
open Go.RowKit Go.Proofs
set_option maxRecDepth 10000
set_option maxHeartbeats 4000000
set_option linter.unusedSimpArgs false
set_option linter.unusedVariables false
def laysRepeat_ren : Go.Shelf.Ren := ⟨fun | 105 => 37 | 212 => 47 | 99 => 25 | 165 => 48 | 166 => 49 | 170 => 50 | 169 => 51 | 263 => 55 | 264 => 56 | 206 => 42 | 240 => 57 | 241 => 58 | 276 => 62 | 277 => 63 | n => n,
  fun | 9 => 9 | 3 => 3 | 4 => 4 | 20 => 20 | 0 => 0 | 46 => 76 | 109 => 77 | 5 => 5 | 72 => 81 | 76 => 85 | 51 => 93 | 146 => 94 | 53 => 65 | 148 => 96 | 70 => 79 | 37 => 22 | 75 => 84 | 127 => 98 | 164 => 100 | 80 => 88 | n => n,
  fun n => n⟩
theorem laysRepeat : Go.Proofs.Lays.n105 Tryd.prog laysRepeat_ren := { mixed := (by kernel_rfl), f99 := Tryd.func25.trans (congrArg some (by kernel_rfl)), f105 := Tryd.func37.trans (congrArg some (by kernel_rfl)), f165 := Tryd.func48.trans (congrArg some (by kernel_rfl)), f166 := Tryd.func49.trans (congrArg some (by kernel_rfl)), f169 := Tryd.func51.trans (congrArg some (by kernel_rfl)), f170 := Tryd.func50.trans (congrArg some (by kernel_rfl)), f206 := Tryd.func42.trans (congrArg some (by kernel_rfl)), f212 := Tryd.func47.trans (congrArg some (by kernel_rfl)), f240 := Tryd.func57.trans (congrArg some (by kernel_rfl)), f241 := Tryd.func58.trans (congrArg some (by kernel_rfl)), f263 := Tryd.func55.trans (congrArg some (by kernel_rfl)), f264 := Tryd.func56.trans (congrArg some (by kernel_rfl)), f276 := Tryd.func62.trans (congrArg some (by kernel_rfl)), f277 := Tryd.func63.trans (congrArg some (by kernel_rfl)), t0 := Tryd.underlying0, a0 := Tryd.isAgg0, z0 := Tryd.sizeOf0, v0 := Tryd.zeroValue0, t3 := Tryd.underlying3, a3 := Tryd.isAgg3, z3 := Tryd.sizeOf3, v3 := Tryd.zeroValue3, t4 := Tryd.underlying4, a4 := Tryd.isAgg4, z4 := Tryd.sizeOf4, v4 := Tryd.zeroValue4, t5 := Tryd.underlying5, a5 := Tryd.isAgg5, z5 := Tryd.sizeOf5, v5 := Tryd.zeroValue5, t9 := Tryd.underlying9, a9 := Tryd.isAgg9, z9 := Tryd.sizeOf9, v9 := Tryd.zeroValue9, t20 := Tryd.underlying20, a20 := Tryd.isAgg20, z20 := Tryd.sizeOf20, v20 := Tryd.zeroValue20, t37 := Tryd.underlying22, a37 := Tryd.isAgg22, z37 := Tryd.sizeOf22, v37 := Tryd.zeroValue22, t46 := Tryd.underlying76, a46 := Tryd.isAgg76, z46 := Tryd.sizeOf76, v46 := Tryd.zeroValue76, t51 := Tryd.underlying93, a51 := Tryd.isAgg93, z51 := Tryd.sizeOf93, v51 := Tryd.zeroValue93, t53 := Tryd.underlying65, a53 := Tryd.isAgg65, z53 := Tryd.sizeOf65, v53 := Tryd.zeroValue65, t70 := Tryd.underlying79, a70 := Tryd.isAgg79, z70 := Tryd.sizeOf79, v70 := Tryd.zeroValue79, t72 := Tryd.underlying81, a72 := Tryd.isAgg81, z72 := Tryd.sizeOf81, v72 := Tryd.zeroValue81, t75 := Tryd.underlying84, a75 := Tryd.isAgg84, z75 := Tryd.sizeOf84, v75 := Tryd.zeroValue84, t76 := Tryd.underlying85, a76 := Tryd.isAgg85, z76 := Tryd.sizeOf85, v76 := Tryd.zeroValue85, t109 := Tryd.underlying77, a109 := Tryd.isAgg77, z109 := Tryd.sizeOf77, v109 := Tryd.zeroValue77, t127 := Tryd.underlying98, a127 := Tryd.isAgg98, z127 := Tryd.sizeOf98, v127 := Tryd.zeroValue98, t146 := Tryd.underlying94, a146 := Tryd.isAgg94, z146 := Tryd.sizeOf94, v146 := Tryd.zeroValue94, t148 := Tryd.underlying96, a148 := Tryd.isAgg96, z148 := Tryd.sizeOf96, v148 := Tryd.zeroValue96, t164 := Tryd.underlying100, a164 := Tryd.isAgg100, z164 := Tryd.sizeOf100, v164 := Tryd.zeroValue100 }
theorem laysExtra : Builder.Extra Tryd.prog laysRepeat_ren := { sizeBuilder := (by kernel_rfl), liesBuilder := (by kernel_rfl), t5 := laysRepeat.t5, a5 := laysRepeat.a5, z5 := laysRepeat.z5, v5 := laysRepeat.v5, infoByte := (by kernel_rfl), cellsByte := (by kernel_rfl), sizeByte := (by kernel_rfl), neB5 := (by decide) }
theorem repeat_ac (l : List UInt8) (c : Nat) (hc : c ≤ 9223372036854775807) (h : l.length * c ≤ 140737488355328) : AC Tryd.prog 37 [.str l, .int .i64 (c : Int)] (.str (Go.Lib.repeatL l c)) := by
  refine ⟨Tryd.call37, fun w A vs hA hl hv => ?_⟩
  match vs, hl with
  | ⟨[v0, v1]⟩, _ =>
    have h0 := hv 0 _ v0 rfl rfl
    have h1 := hv 1 _ v1 rfl rfl
    cases h0 with
    | str s l e =>
      cases h1 with
      | int k n =>
        have hsz : s.size = l.length := by rw [← e, Array.length_toList]; rfl
        refine (Any.strings_Repeat (ρ := laysRepeat_ren) laysRepeat laysExtra s c w hc (by rw [hsz]; exact h)).mono ?_
        rintro e' w' ⟨rfl, hb⟩
        refine ⟨_, rfl, hb, none, ?_⟩
        exact .str _ _ (by rw [e])
theorem repL_len (l : List UInt8) (c : Nat) : (Go.Lib.repeatL l c).length = c * l.length := Go.Lib.repeatL_length l c
theorem repL_succ (l : List UInt8) (c : Nat) : Go.Lib.repeatL l (c + 1) = Go.Lib.repeatL l c ++ l := by rw [Go.Lib.repeatL_add, Go.Lib.repeatL_one]
def mirR (l : List UInt8) (n : Int) : AV :=
  if l = [] then .tup [.str [], .int .i64 1] else if (0 ≤ n ∧ n ≤ 4096) ∧ n % l.length = 0 then .tup [.str (Go.Lib.repeatL l (n.toNat / l.length)), .int .i64 0] else .tup [.str [], .int .i64 2]
theorem tmod_pos {n : Int} {k : Nat} (h : 0 ≤ n) : Int.tmod n k = n % k := Int.tmod_eq_emod_of_nonneg h
theorem iMirrorTo_ac (l : List UInt8) (n : Int) (hl : l.length ≤ 1048576) : AC Tryd.prog 17 [.str l, .int .i64 n] (mirR l n) := by
  unfold mirR
  by_cases h0 : l = []
  · rw [if_pos h0]
    subst h0
    refine AC.of_run mo Tryd.func17 Tryd.call17 ⟨rfl, Tryd.ntmps17, Tryd.results17, by kernel_rfl⟩ rfl ?_
    repeat' (first | simp only [go_sem, ↓reduceIte, Nat.reduceEqDiff, Nat.reduceAdd, Nat.reduceMul, Nat.reduceSub, Nat.reduceLeDiff, Nat.reduceLT, Nat.reduceBEq, Nat.reduceBNe, Int.reduceLT, Int.reduceLE, Int.reduceEq, Int.reduceNeg, Int.reduceToNat, Int.toNat_natCast, Int.natCast_nonneg, List.length_append, List.length_map, List.length_replicate, Bool.and_eq_true, decide_eq_true_eq, List.length_take, List.length_drop, Int.reduceSub, Int.reduceAdd, Int.reduceMul, Int.sub_zero, Int.add_zero, Int.zero_add, reduceCtorEq, decide_true, decide_false, Bool.false_eq_true, List.reduceReplicate, *] | simp (disch := omega) only [wrap_i64, wrap_u8, Int.tdiv_eq_ediv_of_nonneg, Int.tmod_eq_emod_of_nonneg, if_pos] | (refine callP_0 (within_ac ..) (rfl) (rfl) ?_) | (refine callX_ac (within_ac ..) (rfl) (rfl) ?_) | refine callP_x ?_ | (refine ret_gen (by first | exact .inr rfl | exact .inl rfl) (rfl) ?_) | (refine guardP_split (fun _ => ?_) (fun _ => ?_)) | (refine condP_split (fun _ => ?_) (fun _ => ?_)) | (refine guardP_splitB (fun _ => ?_) (fun _ => ?_)) | (refine condP_splitB (fun _ => ?_) (fun _ => ?_)))
  · rw [if_neg h0]
    have hp : 0 < l.length := List.length_pos_iff.2 h0
    have hz : ¬ (l.length : Int) = 0 := by omega
    by_cases h1 : 0 ≤ n ∧ n ≤ 4096
    · have h10 := h1.1
      by_cases h2 : n % l.length = 0
      · rw [if_pos ⟨h1, h2⟩]
        obtain ⟨k, rfl⟩ := Int.eq_ofNat_of_zero_le h1.1
        have hq : Int.tdiv (k : Int) (l.length : Int) = ((k / l.length : Nat) : Int) := tdiv_nat k l.length
        have hmod : Int.tmod (k : Int) (l.length : Int) = 0 := by rw [Int.tmod_eq_emod_of_nonneg h1.1, h2]
        have hqb : k / l.length ≤ 4096 := Nat.le_trans (Nat.div_le_self _ _) (by omega)
        simp only [Int.toNat_natCast]
        generalize k / l.length = q at hq hqb ⊢
        have hr := repeat_ac l q (by omega) (Nat.le_trans (Nat.mul_le_mul hl hqb) (by omega))
        refine AC.of_run mo Tryd.func17 Tryd.call17 ⟨rfl, Tryd.ntmps17, Tryd.results17, by kernel_rfl⟩ rfl ?_
        repeat' (first | simp only [go_sem, ↓reduceIte, Nat.reduceEqDiff, Nat.reduceAdd, Nat.reduceMul, Nat.reduceSub, Nat.reduceLeDiff, Nat.reduceLT, Nat.reduceBEq, Nat.reduceBNe, Int.reduceLT, Int.reduceLE, Int.reduceEq, Int.reduceNeg, Int.reduceToNat, Int.toNat_natCast, Int.natCast_nonneg, List.length_append, List.length_map, List.length_replicate, Bool.and_eq_true, decide_eq_true_eq, List.length_take, List.length_drop, Int.reduceSub, Int.reduceAdd, Int.reduceMul, Int.sub_zero, Int.add_zero, Int.zero_add, reduceCtorEq, decide_true, decide_false, Bool.false_eq_true, List.reduceReplicate, *] | simp (disch := omega) only [wrap_i64, wrap_u8, Int.tdiv_eq_ediv_of_nonneg, Int.tmod_eq_emod_of_nonneg, if_pos] | (refine callP_0 (within_ac ..) (rfl) (rfl) ?_) | (refine callP_0 (hr ..) (rfl) (rfl) ?_) | (refine callX_ac (within_ac ..) (rfl) (rfl) ?_) | (refine callX_ac (hr ..) (rfl) (rfl) ?_) | refine callP_x ?_ | (refine ret_gen (by first | exact .inr rfl | exact .inl rfl) (rfl) ?_) | (refine guardP_split (fun _ => ?_) (fun _ => ?_)) | (refine condP_split (fun _ => ?_) (fun _ => ?_)) | (refine guardP_splitB (fun _ => ?_) (fun _ => ?_)) | (refine condP_splitB (fun _ => ?_) (fun _ => ?_)))
      · rw [if_neg (fun h => h2 h.2)]
        have hmod : Int.tmod n (l.length : Int) = n % l.length := Int.tmod_eq_emod_of_nonneg h1.1
        have h2' : ¬ n % (l.length : Int) = 0 := h2
        refine AC.of_run mo Tryd.func17 Tryd.call17 ⟨rfl, Tryd.ntmps17, Tryd.results17, by kernel_rfl⟩ rfl ?_
        repeat' (first | simp only [go_sem, ↓reduceIte, Nat.reduceEqDiff, Nat.reduceAdd, Nat.reduceMul, Nat.reduceSub, Nat.reduceLeDiff, Nat.reduceLT, Nat.reduceBEq, Nat.reduceBNe, Int.reduceLT, Int.reduceLE, Int.reduceEq, Int.reduceNeg, Int.reduceToNat, Int.toNat_natCast, Int.natCast_nonneg, List.length_append, List.length_map, List.length_replicate, Bool.and_eq_true, decide_eq_true_eq, List.length_take, List.length_drop, Int.reduceSub, Int.reduceAdd, Int.reduceMul, Int.sub_zero, Int.add_zero, Int.zero_add, reduceCtorEq, decide_true, decide_false, Bool.false_eq_true, List.reduceReplicate, *] | simp (disch := omega) only [wrap_i64, wrap_u8, Int.tdiv_eq_ediv_of_nonneg, Int.tmod_eq_emod_of_nonneg, if_pos] | (refine callP_0 (within_ac ..) (rfl) (rfl) ?_) | (refine callX_ac (within_ac ..) (rfl) (rfl) ?_) | refine callP_x ?_ | (refine ret_gen (by first | exact .inr rfl | exact .inl rfl) (rfl) ?_) | (refine guardP_split (fun _ => ?_) (fun _ => ?_)) | (refine condP_split (fun _ => ?_) (fun _ => ?_)) | (refine guardP_splitB (fun _ => ?_) (fun _ => ?_)) | (refine condP_splitB (fun _ => ?_) (fun _ => ?_)))
    · rw [if_neg (fun h => h1 h.1)]
      refine AC.of_run mo Tryd.func17 Tryd.call17 ⟨rfl, Tryd.ntmps17, Tryd.results17, by kernel_rfl⟩ rfl ?_
      repeat' (first | simp only [go_sem, ↓reduceIte, Nat.reduceEqDiff, Nat.reduceAdd, Nat.reduceMul, Nat.reduceSub, Nat.reduceLeDiff, Nat.reduceLT, Nat.reduceBEq, Nat.reduceBNe, Int.reduceLT, Int.reduceLE, Int.reduceEq, Int.reduceNeg, Int.reduceToNat, Int.toNat_natCast, Int.natCast_nonneg, List.length_append, List.length_map, List.length_replicate, Bool.and_eq_true, decide_eq_true_eq, List.length_take, List.length_drop, Int.reduceSub, Int.reduceAdd, Int.reduceMul, Int.sub_zero, Int.add_zero, Int.zero_add, reduceCtorEq, decide_true, decide_false, Bool.false_eq_true, List.reduceReplicate, *] | simp (disch := omega) only [wrap_i64, wrap_u8, Int.tdiv_eq_ediv_of_nonneg, Int.tmod_eq_emod_of_nonneg, if_pos] | (refine callP_0 (within_ac ..) (rfl) (rfl) ?_) | (refine callX_ac (within_ac ..) (rfl) (rfl) ?_) | refine callP_x ?_ | (refine ret_gen (by first | exact .inr rfl | exact .inl rfl) (rfl) ?_) | (refine guardP_split (fun _ => ?_) (fun _ => ?_)) | (refine condP_split (fun _ => ?_) (fun _ => ?_)) | (refine guardP_splitB (fun _ => ?_) (fun _ => ?_)) | (refine condP_splitB (fun _ => ?_) (fun _ => ?_)))
end Go.Ab
