/- The contract of strings.Repeat, and of the functions that repeat. Conditions: none. -/
import Derived.Test.YtkpcbgoljkccbaaCList
import Derived.Shelf.Strings.Repeat
namespace Go.Ab
open Go.RowKit Go.Proofs
set_option maxRecDepth 10000
set_option maxHeartbeats 4000000
set_option linter.unusedSimpArgs false
set_option linter.unusedVariables false
def laysRepeat_ren : Go.Shelf.Ren := ⟨fun | 105 => 70 | 212 => 104 | 99 => 105 | 165 => 106 | 166 => 92 | 170 => 107 | 169 => 95 | 263 => 126 | 264 => 127 | 206 => 128 | 240 => 122 | 241 => 129 | 276 => 136 | 277 => 139 | n => n,
  fun | 9 => 9 | 3 => 3 | 4 => 4 | 20 => 20 | 0 => 0 | 46 => 130 | 109 => 131 | 5 => 5 | 72 => 115 | 76 => 118 | 51 => 155 | 146 => 156 | 53 => 158 | 148 => 159 | 70 => 113 | 37 => 89 | 75 => 117 | 127 => 153 | 164 => 165 | 80 => 122 | n => n,
  fun n => n⟩
theorem laysRepeat : Go.Proofs.Lays.n105 Try.prog laysRepeat_ren := { mixed := (by kernel_rfl), f99 := Try.func105.trans (congrArg some (by kernel_rfl)), f105 := Try.func70.trans (congrArg some (by kernel_rfl)), f165 := Try.func106.trans (congrArg some (by kernel_rfl)), f166 := Try.func92.trans (congrArg some (by kernel_rfl)), f169 := Try.func95.trans (congrArg some (by kernel_rfl)), f170 := Try.func107.trans (congrArg some (by kernel_rfl)), f206 := Try.func128.trans (congrArg some (by kernel_rfl)), f212 := Try.func104.trans (congrArg some (by kernel_rfl)), f240 := Try.func122.trans (congrArg some (by kernel_rfl)), f241 := Try.func129.trans (congrArg some (by kernel_rfl)), f263 := Try.func126.trans (congrArg some (by kernel_rfl)), f264 := Try.func127.trans (congrArg some (by kernel_rfl)), f276 := Try.func136.trans (congrArg some (by kernel_rfl)), f277 := Try.func139.trans (congrArg some (by kernel_rfl)), t0 := Try.underlying0, a0 := Try.isAgg0, z0 := Try.sizeOf0, v0 := Try.zeroValue0, t3 := Try.underlying3, a3 := Try.isAgg3, z3 := Try.sizeOf3, v3 := Try.zeroValue3, t4 := Try.underlying4, a4 := Try.isAgg4, z4 := Try.sizeOf4, v4 := Try.zeroValue4, t5 := Try.underlying5, a5 := Try.isAgg5, z5 := Try.sizeOf5, v5 := Try.zeroValue5, t9 := Try.underlying9, a9 := Try.isAgg9, z9 := Try.sizeOf9, v9 := Try.zeroValue9, t20 := Try.underlying20, a20 := Try.isAgg20, z20 := Try.sizeOf20, v20 := Try.zeroValue20, t37 := Try.underlying89, a37 := Try.isAgg89, z37 := Try.sizeOf89, v37 := Try.zeroValue89, t46 := Try.underlying130, a46 := Try.isAgg130, z46 := Try.sizeOf130, v46 := Try.zeroValue130, t51 := Try.underlying155, a51 := Try.isAgg155, z51 := Try.sizeOf155, v51 := Try.zeroValue155, t53 := Try.underlying158, a53 := Try.isAgg158, z53 := Try.sizeOf158, v53 := Try.zeroValue158, t70 := Try.underlying113, a70 := Try.isAgg113, z70 := Try.sizeOf113, v70 := Try.zeroValue113, t72 := Try.underlying115, a72 := Try.isAgg115, z72 := Try.sizeOf115, v72 := Try.zeroValue115, t75 := Try.underlying117, a75 := Try.isAgg117, z75 := Try.sizeOf117, v75 := Try.zeroValue117, t76 := Try.underlying118, a76 := Try.isAgg118, z76 := Try.sizeOf118, v76 := Try.zeroValue118, t109 := Try.underlying131, a109 := Try.isAgg131, z109 := Try.sizeOf131, v109 := Try.zeroValue131, t127 := Try.underlying153, a127 := Try.isAgg153, z127 := Try.sizeOf153, v127 := Try.zeroValue153, t146 := Try.underlying156, a146 := Try.isAgg156, z146 := Try.sizeOf156, v146 := Try.zeroValue156, t148 := Try.underlying159, a148 := Try.isAgg159, z148 := Try.sizeOf159, v148 := Try.zeroValue159, t164 := Try.underlying165, a164 := Try.isAgg165, z164 := Try.sizeOf165, v164 := Try.zeroValue165 }
theorem laysExtra : Builder.Extra Try.prog laysRepeat_ren := { sizeBuilder := (by kernel_rfl), liesBuilder := (by kernel_rfl), t5 := laysRepeat.t5, a5 := laysRepeat.a5, z5 := laysRepeat.z5, v5 := laysRepeat.v5, infoByte := (by kernel_rfl), cellsByte := (by kernel_rfl), sizeByte := (by kernel_rfl), neB5 := (by decide) }
theorem repeat_ac (l : List UInt8) (c : Nat) (hc : c ≤ 9223372036854775807) (h : l.length * c ≤ 140737488355328) : AC Try.prog 70 [.str l, .int .i64 (c : Int)] (.str (Go.Lib.repeatL l c)) := by
  refine ⟨Try.call70, fun w A vs hA hl hv => ?_⟩
  match vs, hl with
  | ⟨[v0, v1]⟩, _ =>
    have h0 := hv 0 _ v0 rfl rfl
    have h1 := hv 1 _ v1 rfl rfl
    cases h0 with
    | str s l e =>
      cases h1 with
      | int k n =>
        have hsz : s.size = l.length := by rw [← e, Array.length_toList]; rfl
        refine (Any.strings_Repeat (ρ := laysRepeat_ren) laysRepeat laysExtra s c w hc (by rw [hsz]; exact h)).mono ?_
        rintro e' w' ⟨rfl, hb⟩
        refine ⟨_, rfl, hb, none, ?_⟩
        exact .str _ _ (by rw [e])
theorem repL_len (l : List UInt8) (c : Nat) : (Go.Lib.repeatL l c).length = c * l.length := Go.Lib.repeatL_length l c
theorem repL_succ (l : List UInt8) (c : Nat) : Go.Lib.repeatL l (c + 1) = Go.Lib.repeatL l c ++ l := by rw [Go.Lib.repeatL_add, Go.Lib.repeatL_one]
def mirR (l : List UInt8) (n : Int) : AV :=
  if l = [] then .tup [.str [], .int .i64 1] else if (0 ≤ n ∧ n ≤ 4096) ∧ n % l.length = 0 then .tup [.str (Go.Lib.repeatL l (n.toNat / l.length)), .int .i64 0] else .tup [.str [], .int .i64 2]
theorem tmod_pos {n : Int} {k : Nat} (h : 0 ≤ n) : Int.tmod n k = n % k := Int.tmod_eq_emod_of_nonneg h
theorem iMirrorTo_ac (l : List UInt8) (n : Int) (hl : l.length ≤ 1048576) : AC Try.prog 33 [.str l, .int .i64 n] (mirR l n) := by
  unfold mirR
  by_cases h0 : l = []
  · rw [if_pos h0]
    subst h0
    refine AC.of_run mo Try.func33 Try.call33 ⟨rfl, Try.ntmps33, Try.results33, by kernel_rfl⟩ rfl ?_
    repeat' (first | simp only [go_sem, ↓reduceIte, Nat.reduceEqDiff, Nat.reduceAdd, Nat.reduceMul, Nat.reduceSub, Nat.reduceLeDiff, Nat.reduceLT, Nat.reduceBEq, Nat.reduceBNe, Int.reduceLT, Int.reduceLE, Int.reduceEq, Int.reduceNeg, Int.reduceToNat, Int.toNat_natCast, Int.natCast_nonneg, List.length_append, List.length_map, List.length_replicate, Bool.and_eq_true, decide_eq_true_eq, List.length_take, List.length_drop, Int.reduceSub, Int.reduceAdd, Int.reduceMul, Int.sub_zero, Int.add_zero, Int.zero_add, reduceCtorEq, decide_true, decide_false, Bool.false_eq_true, List.reduceReplicate, *] | simp (disch := omega) only [wrap_i64, wrap_u8, Int.tdiv_eq_ediv_of_nonneg, Int.tmod_eq_emod_of_nonneg, if_pos] | (refine callP_0 (within_ac ..) (rfl) (rfl) ?_) | (refine callX_ac (within_ac ..) (rfl) (rfl) ?_) | refine callP_x ?_ | (refine ret_gen (by first | exact .inr rfl | exact .inl rfl) (rfl) ?_) | (refine guardP_split (fun _ => ?_) (fun _ => ?_)) | (refine condP_split (fun _ => ?_) (fun _ => ?_)) | (refine guardP_splitB (fun _ => ?_) (fun _ => ?_)) | (refine condP_splitB (fun _ => ?_) (fun _ => ?_)))
  · rw [if_neg h0]
    have hp : 0 < l.length := List.length_pos_iff.2 h0
    have hz : ¬ (l.length : Int) = 0 := by omega
    by_cases h1 : 0 ≤ n ∧ n ≤ 4096
    · have h10 := h1.1
      by_cases h2 : n % l.length = 0
      · rw [if_pos ⟨h1, h2⟩]
        obtain ⟨k, rfl⟩ := Int.eq_ofNat_of_zero_le h1.1
        have hq : Int.tdiv (k : Int) (l.length : Int) = ((k / l.length : Nat) : Int) := tdiv_nat k l.length
        have hmod : Int.tmod (k : Int) (l.length : Int) = 0 := by rw [Int.tmod_eq_emod_of_nonneg h1.1, h2]
        have hqb : k / l.length ≤ 4096 := Nat.le_trans (Nat.div_le_self _ _) (by omega)
        simp only [Int.toNat_natCast]
        generalize k / l.length = q at hq hqb ⊢
        have hr := repeat_ac l q (by omega) (Nat.le_trans (Nat.mul_le_mul hl hqb) (by omega))
        refine AC.of_run mo Try.func33 Try.call33 ⟨rfl, Try.ntmps33, Try.results33, by kernel_rfl⟩ rfl ?_
        repeat' (first | simp only [go_sem, ↓reduceIte, Nat.reduceEqDiff, Nat.reduceAdd, Nat.reduceMul, Nat.reduceSub, Nat.reduceLeDiff, Nat.reduceLT, Nat.reduceBEq, Nat.reduceBNe, Int.reduceLT, Int.reduceLE, Int.reduceEq, Int.reduceNeg, Int.reduceToNat, Int.toNat_natCast, Int.natCast_nonneg, List.length_append, List.length_map, List.length_replicate, Bool.and_eq_true, decide_eq_true_eq, List.length_take, List.length_drop, Int.reduceSub, Int.reduceAdd, Int.reduceMul, Int.sub_zero, Int.add_zero, Int.zero_add, reduceCtorEq, decide_true, decide_false, Bool.false_eq_true, List.reduceReplicate, *] | simp (disch := omega) only [wrap_i64, wrap_u8, Int.tdiv_eq_ediv_of_nonneg, Int.tmod_eq_emod_of_nonneg, if_pos] | (refine callP_0 (within_ac ..) (rfl) (rfl) ?_) | (refine callP_0 (hr ..) (rfl) (rfl) ?_) | (refine callX_ac (within_ac ..) (rfl) (rfl) ?_) | (refine callX_ac (hr ..) (rfl) (rfl) ?_) | refine callP_x ?_ | (refine ret_gen (by first | exact .inr rfl | exact .inl rfl) (rfl) ?_) | (refine guardP_split (fun _ => ?_) (fun _ => ?_)) | (refine condP_split (fun _ => ?_) (fun _ => ?_)) | (refine guardP_splitB (fun _ => ?_) (fun _ => ?_)) | (refine condP_splitB (fun _ => ?_) (fun _ => ?_)))
      · rw [if_neg (fun h => h2 h.2)]
        have hmod : Int.tmod n (l.length : Int) = n % l.length := Int.tmod_eq_emod_of_nonneg h1.1
        have h2' : ¬ n % (l.length : Int) = 0 := h2
        refine AC.of_run mo Try.func33 Try.call33 ⟨rfl, Try.ntmps33, Try.results33, by kernel_rfl⟩ rfl ?_
        repeat' (first | simp only [go_sem, ↓reduceIte, Nat.reduceEqDiff, Nat.reduceAdd, Nat.reduceMul, Nat.reduceSub, Nat.reduceLeDiff, Nat.reduceLT, Nat.reduceBEq, Nat.reduceBNe, Int.reduceLT, Int.reduceLE, Int.reduceEq, Int.reduceNeg, Int.reduceToNat, Int.toNat_natCast, Int.natCast_nonneg, List.length_append, List.length_map, List.length_replicate, Bool.and_eq_true, decide_eq_true_eq, List.length_take, List.length_drop, Int.reduceSub, Int.reduceAdd, Int.reduceMul, Int.sub_zero, Int.add_zero, Int.zero_add, reduceCtorEq, decide_true, decide_false, Bool.false_eq_true, List.reduceReplicate, *] | simp (disch := omega) only [wrap_i64, wrap_u8, Int.tdiv_eq_ediv_of_nonneg, Int.tmod_eq_emod_of_nonneg, if_pos] | (refine callP_0 (within_ac ..) (rfl) (rfl) ?_) | (refine callX_ac (within_ac ..) (rfl) (rfl) ?_) | refine callP_x ?_ | (refine ret_gen (by first | exact .inr rfl | exact .inl rfl) (rfl) ?_) | (refine guardP_split (fun _ => ?_) (fun _ => ?_)) | (refine condP_split (fun _ => ?_) (fun _ => ?_)) | (refine guardP_splitB (fun _ => ?_) (fun _ => ?_)) | (refine condP_splitB (fun _ => ?_) (fun _ => ?_)))
    · rw [if_neg (fun h => h1 h.1)]
      refine AC.of_run mo Try.func33 Try.call33 ⟨rfl, Try.ntmps33, Try.results33, by kernel_rfl⟩ rfl ?_
      repeat' (first | simp only [go_sem, ↓reduceIte, Nat.reduceEqDiff, Nat.reduceAdd, Nat.reduceMul, Nat.reduceSub, Nat.reduceLeDiff, Nat.reduceLT, Nat.reduceBEq, Nat.reduceBNe, Int.reduceLT, Int.reduceLE, Int.reduceEq, Int.reduceNeg, Int.reduceToNat, Int.toNat_natCast, Int.natCast_nonneg, List.length_append, List.length_map, List.length_replicate, Bool.and_eq_true, decide_eq_true_eq, List.length_take, List.length_drop, Int.reduceSub, Int.reduceAdd, Int.reduceMul, Int.sub_zero, Int.add_zero, Int.zero_add, reduceCtorEq, decide_true, decide_false, Bool.false_eq_true, List.reduceReplicate, *] | simp (disch := omega) only [wrap_i64, wrap_u8, Int.tdiv_eq_ediv_of_nonneg, Int.tmod_eq_emod_of_nonneg, if_pos] | (refine callP_0 (within_ac ..) (rfl) (rfl) ?_) | (refine callX_ac (within_ac ..) (rfl) (rfl) ?_) | refine callP_x ?_ | (refine ret_gen (by first | exact .inr rfl | exact .inl rfl) (rfl) ?_) | (refine guardP_split (fun _ => ?_) (fun _ => ?_)) | (refine condP_split (fun _ => ?_) (fun _ => ?_)) | (refine guardP_splitB (fun _ => ?_) (fun _ => ?_)) | (refine condP_splitB (fun _ => ?_) (fun _ => ?_)))
theorem sMirrorTo_ac (l : List UInt8) (n : Int) (hl : l.length ≤ 1048576) : AC Try.prog 32 [.str l, .int .i64 n] (mirR l n) := by
  unfold mirR
  by_cases h0 : l = []
  · rw [if_pos h0]
    subst h0
    refine AC.of_run mo Try.func32 Try.call32 ⟨rfl, Try.ntmps32, Try.results32, by kernel_rfl⟩ rfl ?_
    repeat' (first | simp only [go_sem, ↓reduceIte, Nat.reduceEqDiff, Nat.reduceAdd, Nat.reduceMul, Nat.reduceSub, Nat.reduceLeDiff, Nat.reduceLT, Nat.reduceBEq, Nat.reduceBNe, Int.reduceLT, Int.reduceLE, Int.reduceEq, Int.reduceNeg, Int.reduceToNat, Int.toNat_natCast, Int.natCast_nonneg, List.length_append, List.length_map, List.length_replicate, Bool.and_eq_true, decide_eq_true_eq, List.length_take, List.length_drop, Int.reduceSub, Int.reduceAdd, Int.reduceMul, Int.sub_zero, Int.add_zero, Int.zero_add, reduceCtorEq, decide_true, decide_false, Bool.false_eq_true, List.reduceReplicate, *] | simp (disch := omega) only [wrap_i64, wrap_u8, Int.tdiv_eq_ediv_of_nonneg, Int.tmod_eq_emod_of_nonneg, if_pos] | (refine callP_0 (l00In_ac ..) (rfl) (rfl) ?_) | (refine callX_ac (l00In_ac ..) (rfl) (rfl) ?_) | refine callP_x ?_ | (refine ret_gen (by first | exact .inr rfl | exact .inl rfl) (rfl) ?_) | (refine guardP_split (fun _ => ?_) (fun _ => ?_)) | (refine condP_split (fun _ => ?_) (fun _ => ?_)) | (refine guardP_splitB (fun _ => ?_) (fun _ => ?_)) | (refine condP_splitB (fun _ => ?_) (fun _ => ?_)))
  · rw [if_neg h0]
    have hp : 0 < l.length := List.length_pos_iff.2 h0
    have hz : ¬ (l.length : Int) = 0 := by omega
    by_cases h1 : 0 ≤ n ∧ n ≤ 4096
    · have h10 := h1.1
      by_cases h2 : n % l.length = 0
      · rw [if_pos ⟨h1, h2⟩]
        obtain ⟨k, rfl⟩ := Int.eq_ofNat_of_zero_le h1.1
        have hmod : Int.tmod (k : Int) (l.length : Int) = 0 := by rw [Int.tmod_eq_emod_of_nonneg h1.1, h2]
        have hqb : k / l.length ≤ 4096 := Nat.le_trans (Nat.div_le_self _ _) (by omega)
        have hke : k / l.length * l.length = k := Nat.div_mul_cancel (Nat.dvd_of_mod_eq_zero (by omega))
        simp only [Int.toNat_natCast]
        generalize k / l.length = q at hqb hke ⊢
        refine AC.of_run mo Try.func32 Try.call32 ⟨rfl, Try.ntmps32, Try.results32, by kernel_rfl⟩ rfl ?_
        repeat' (first | simp only [go_sem, ↓reduceIte, Nat.reduceEqDiff, Nat.reduceAdd, Nat.reduceMul, Nat.reduceSub, Nat.reduceLeDiff, Nat.reduceLT, Nat.reduceBEq, Nat.reduceBNe, Int.reduceLT, Int.reduceLE, Int.reduceEq, Int.reduceNeg, Int.reduceToNat, Int.toNat_natCast, Int.natCast_nonneg, List.length_append, List.length_map, List.length_replicate, Bool.and_eq_true, decide_eq_true_eq, List.length_take, List.length_drop, Int.reduceSub, Int.reduceAdd, Int.reduceMul, Int.sub_zero, Int.add_zero, Int.zero_add, reduceCtorEq, decide_true, decide_false, Bool.false_eq_true, List.reduceReplicate, *] | simp (disch := omega) only [wrap_i64, wrap_u8, Int.tdiv_eq_ediv_of_nonneg, Int.tmod_eq_emod_of_nonneg, if_pos] | (refine callP_0 (l00In_ac ..) (rfl) (rfl) ?_) | (refine callX_ac (l00In_ac ..) (rfl) (rfl) ?_) | refine callP_x ?_ | (refine ret_gen (by first | exact .inr rfl | exact .inl rfl) (rfl) ?_) | (refine guardP_split (fun _ => ?_) (fun _ => ?_)) | (refine condP_split (fun _ => ?_) (fun _ => ?_)) | (refine guardP_splitB (fun _ => ?_) (fun _ => ?_)) | (refine condP_splitB (fun _ => ?_) (fun _ => ?_)))
        refine sx_loop (fun m s => ∃ j g, j ≤ q ∧ m = q - j ∧ s.τ 0 = .str l ∧ s.τ 1 = .int .i64 (k : Int) ∧ s.τ 6 = .ref 5000 g 0 (j * l.length) ∧ s.nx = 0 ∧ s.H 5000 = some ⟨1, bytesA (Go.Lib.repeatL l j), g, true⟩) q ⟨0, 0, by simp [go_sem, Go.Lib.repeatL, bytesA]⟩ ?_
        rintro m s ⟨j, g, hj, rfl, t0, t1, t6, hnx, hH⟩
        have hjl : j * l.length ≤ k := by rw [← hke]; exact Nat.mul_le_mul_right _ hj
        have hrl := repL_len l j
        simp only [go_sem, ↓reduceIte, Nat.reduceEqDiff, Nat.reduceAdd, Nat.reduceMul, Nat.reduceSub, Nat.reduceLeDiff, Nat.reduceLT, Nat.reduceBEq, Nat.reduceBNe, Int.reduceLT, Int.reduceLE, Int.reduceEq, Int.reduceNeg, Int.reduceToNat, Int.toNat_natCast, Int.natCast_nonneg, List.length_append, List.length_map, List.length_replicate, Bool.and_eq_true, decide_eq_true_eq, List.length_take, List.length_drop, Int.reduceSub, Int.reduceAdd, Int.reduceMul, Int.sub_zero, Int.add_zero, Int.zero_add, reduceCtorEq, decide_true, decide_false, Bool.false_eq_true, List.reduceReplicate, t0, t1, t6, hnx, hH, hrl]
        refine condP_split (fun hc => ?_) (fun hc => ?_)
        · have hlt : j < q := by
            refine Nat.lt_of_le_of_ne hj fun e => ?_
            subst e; omega
          have hsm : (j + 1) * l.length = j * l.length + l.length := Nat.succ_mul j l.length
          clear h2 hmod hke
          generalize j * l.length = jl at *
          repeat' (first | simp only [go_sem, ↓reduceIte, Nat.reduceEqDiff, Nat.reduceAdd, Nat.reduceMul, Nat.reduceSub, Nat.reduceLeDiff, Nat.reduceLT, Nat.reduceBEq, Nat.reduceBNe, Int.reduceLT, Int.reduceLE, Int.reduceEq, Int.reduceNeg, Int.reduceToNat, Int.toNat_natCast, Int.natCast_nonneg, List.length_append, List.length_map, List.length_replicate, Bool.and_eq_true, decide_eq_true_eq, List.length_take, List.length_drop, Int.reduceSub, Int.reduceAdd, Int.reduceMul, Int.sub_zero, Int.add_zero, Int.zero_add, reduceCtorEq, decide_true, decide_false, Bool.false_eq_true, List.reduceReplicate, *] | simp (disch := omega) only [wrap_i64, wrap_u8, Int.tdiv_eq_ediv_of_nonneg, Int.tmod_eq_emod_of_nonneg, if_pos] | refine callP_x ?_ | (refine ret_gen (by first | exact .inr rfl | exact .inl rfl) (rfl) ?_) | (refine guardP_split (fun _ => ?_) (fun _ => ?_)) | (refine condP_split (fun _ => ?_) (fun _ => ?_)) | (refine guardP_splitB (fun _ => ?_) (fun _ => ?_)) | (refine condP_splitB (fun _ => ?_) (fun _ => ?_)))
          refine ⟨q - (j + 1), by omega, j + 1, g + 1, by omega, rfl, by rw [hsm], ?_⟩
          rw [bytesA_app, repL_succ]
        · have e : j = q := by
            refine Nat.le_antisymm hj (Nat.le_of_not_lt fun hlt => ?_)
            have h5 := Nat.mul_le_mul_right l.length hlt
            rw [Nat.succ_mul, hke] at h5
            omega
          subst e
          have htk : (bytesA (Go.Lib.repeatL l j)).take (j * l.length) = bytesA (Go.Lib.repeatL l j) := by rw [← repL_len]; exact bytesA_take _
          clear h2 hmod
          rw [hke] at htk
          repeat' (first | simp only [go_sem, ↓reduceIte, Nat.reduceEqDiff, Nat.reduceAdd, Nat.reduceMul, Nat.reduceSub, Nat.reduceLeDiff, Nat.reduceLT, Nat.reduceBEq, Nat.reduceBNe, Int.reduceLT, Int.reduceLE, Int.reduceEq, Int.reduceNeg, Int.reduceToNat, Int.toNat_natCast, Int.natCast_nonneg, List.length_append, List.length_map, List.length_replicate, Bool.and_eq_true, decide_eq_true_eq, List.length_take, List.length_drop, Int.reduceSub, Int.reduceAdd, Int.reduceMul, Int.sub_zero, Int.add_zero, Int.zero_add, reduceCtorEq, decide_true, decide_false, Bool.false_eq_true, List.reduceReplicate, *] | simp (disch := omega) only [wrap_i64, wrap_u8, Int.tdiv_eq_ediv_of_nonneg, Int.tmod_eq_emod_of_nonneg, if_pos] | refine callP_x ?_ | (refine ret_gen (by first | exact .inr rfl | exact .inl rfl) (rfl) ?_) | (refine guardP_split (fun _ => ?_) (fun _ => ?_)) | (refine condP_split (fun _ => ?_) (fun _ => ?_)) | (refine guardP_splitB (fun _ => ?_) (fun _ => ?_)) | (refine condP_splitB (fun _ => ?_) (fun _ => ?_)))
      · rw [if_neg (fun h => h2 h.2)]
        have hmod : Int.tmod n (l.length : Int) = n % l.length := Int.tmod_eq_emod_of_nonneg h1.1
        have h2' : ¬ n % (l.length : Int) = 0 := h2
        refine AC.of_run mo Try.func32 Try.call32 ⟨rfl, Try.ntmps32, Try.results32, by kernel_rfl⟩ rfl ?_
        repeat' (first | simp only [go_sem, ↓reduceIte, Nat.reduceEqDiff, Nat.reduceAdd, Nat.reduceMul, Nat.reduceSub, Nat.reduceLeDiff, Nat.reduceLT, Nat.reduceBEq, Nat.reduceBNe, Int.reduceLT, Int.reduceLE, Int.reduceEq, Int.reduceNeg, Int.reduceToNat, Int.toNat_natCast, Int.natCast_nonneg, List.length_append, List.length_map, List.length_replicate, Bool.and_eq_true, decide_eq_true_eq, List.length_take, List.length_drop, Int.reduceSub, Int.reduceAdd, Int.reduceMul, Int.sub_zero, Int.add_zero, Int.zero_add, reduceCtorEq, decide_true, decide_false, Bool.false_eq_true, List.reduceReplicate, *] | simp (disch := omega) only [wrap_i64, wrap_u8, Int.tdiv_eq_ediv_of_nonneg, Int.tmod_eq_emod_of_nonneg, if_pos] | (refine callP_0 (l00In_ac ..) (rfl) (rfl) ?_) | (refine callX_ac (l00In_ac ..) (rfl) (rfl) ?_) | refine callP_x ?_ | (refine ret_gen (by first | exact .inr rfl | exact .inl rfl) (rfl) ?_) | (refine guardP_split (fun _ => ?_) (fun _ => ?_)) | (refine condP_split (fun _ => ?_) (fun _ => ?_)) | (refine guardP_splitB (fun _ => ?_) (fun _ => ?_)) | (refine condP_splitB (fun _ => ?_) (fun _ => ?_)))
    · rw [if_neg (fun h => h1 h.1)]
      refine AC.of_run mo Try.func32 Try.call32 ⟨rfl, Try.ntmps32, Try.results32, by kernel_rfl⟩ rfl ?_
      repeat' (first | simp only [go_sem, ↓reduceIte, Nat.reduceEqDiff, Nat.reduceAdd, Nat.reduceMul, Nat.reduceSub, Nat.reduceLeDiff, Nat.reduceLT, Nat.reduceBEq, Nat.reduceBNe, Int.reduceLT, Int.reduceLE, Int.reduceEq, Int.reduceNeg, Int.reduceToNat, Int.toNat_natCast, Int.natCast_nonneg, List.length_append, List.length_map, List.length_replicate, Bool.and_eq_true, decide_eq_true_eq, List.length_take, List.length_drop, Int.reduceSub, Int.reduceAdd, Int.reduceMul, Int.sub_zero, Int.add_zero, Int.zero_add, reduceCtorEq, decide_true, decide_false, Bool.false_eq_true, List.reduceReplicate, *] | simp (disch := omega) only [wrap_i64, wrap_u8, Int.tdiv_eq_ediv_of_nonneg, Int.tmod_eq_emod_of_nonneg, if_pos] | (refine callP_0 (l00In_ac ..) (rfl) (rfl) ?_) | (refine callX_ac (l00In_ac ..) (rfl) (rfl) ?_) | refine callP_x ?_ | (refine ret_gen (by first | exact .inr rfl | exact .inl rfl) (rfl) ?_) | (refine guardP_split (fun _ => ?_) (fun _ => ?_)) | (refine condP_split (fun _ => ?_) (fun _ => ?_)) | (refine guardP_splitB (fun _ => ?_) (fun _ => ?_)) | (refine condP_splitB (fun _ => ?_) (fun _ => ?_)))
end Go.Ab
