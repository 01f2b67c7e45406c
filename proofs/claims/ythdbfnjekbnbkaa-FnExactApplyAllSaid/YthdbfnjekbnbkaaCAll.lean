/- The contracts of the functions that apply patches one after the other. Conditions: none. -/
import Derived.Test.YthdbfnjekbnbkaaCApply
import Derived.Test.YthdbfnjekbnbkaaTPatchS
namespace Go.Ab
open Go.RowKit Go.Proofs
set_option maxRecDepth 10000
set_option maxHeartbeats 4000000
set_option linter.unusedSimpArgs false
set_option linter.unusedVariables false
noncomputable section
attribute [local go_sem] hunkV_eq patchV_eq
def smallP (p : PatchD) : Prop := p.hunks.length ≤ 1048576 ∧ ∀ h ∈ p.hunks, h.old.length ≤ 1048576 ∧ h.new.length ≤ 1048576
def appX (p : PatchD) (s : List UInt8) : List UInt8 × Int :=
  if (s.length : Int) = p.src ∧ ((crcL 65535 s : Nat) : Int) = p.sumFrom then
    (if ∀ j, j < p.hunks.length → hit s (hk p j) then
      (if ((crcL 65535 (appTo p s p.hunks.length) : Nat) : Int) = p.sumTo then (appTo p s p.hunks.length, 0) else ([], 8))
    else ([], 6))
  else ([], 6)
theorem appR_X {p : PatchD} (h : patchOk p) (s : List UInt8) : appR p s = .tup [.str (appX p s).1, .int .i64 (appX p s).2] := by
  unfold appR appX
  rw [if_pos h]
  split
  · split
    · split <;> rfl
    · rfl
  · rfl
theorem appX_len {p : PatchD} (h : patchOk p) (s : List UInt8) : (appX p s).1.length ≤ 1048576 := by
  have hd := h.1.2.1
  unfold appX
  split
  · split
    · split
      · simp only; rw [appTo_len h s (Nat.le_refl _)]; omega
      · simp
    · simp
  · simp
theorem notOk_ac (p : PatchD) (hs : smallP p) : AC Try.prog 70 [patchV p] (.bool (!decide (patchOk p))) := by
  have hv := iValidPatch_ac p hs.2
  simp only [patchV_eq] at hv ⊢
  refine AC.of_run mo Try.func70 Try.call70 ⟨rfl, Try.ntmps70, Try.results70, by kernel_rfl⟩ rfl ?_
  repeat' (first | simp only [go_sem, ↓reduceIte, Nat.reduceEqDiff, Nat.reduceAdd, Nat.reduceMul, Nat.reduceSub, Nat.reduceLeDiff, Nat.reduceLT, Nat.reduceBEq, Nat.reduceBNe, Int.reduceLT, Int.reduceLE, Int.reduceEq, Int.reduceNeg, Int.reduceToNat, Int.toNat_natCast, Int.natCast_nonneg, List.length_append, List.length_map, List.length_replicate, Bool.and_eq_true, decide_eq_true_eq, List.length_take, List.length_drop, Int.reduceSub, Int.reduceAdd, Int.reduceMul, Int.sub_zero, Int.add_zero, Int.zero_add, reduceCtorEq, decide_true, decide_false, Bool.false_eq_true, List.reduceReplicate, *] | simp (disch := omega) only [wrap_i64, wrap_u8, Int.tdiv_eq_ediv_of_nonneg, Int.tmod_eq_emod_of_nonneg, if_pos] | (refine callP_0 (hv ..) (rfl) (rfl) ?_) | (refine callX_ac (hv ..) (rfl) (rfl) ?_) | refine callP_x ?_ | (refine ret_gen (by first | exact .inr rfl | exact .inl rfl) (rfl) ?_) | (refine guardP_split (fun _ => ?_) (fun _ => ?_)) | (refine condP_split (fun _ => ?_) (fun _ => ?_)) | (refine guardP_splitB (fun _ => ?_) (fun _ => ?_)) | (refine condP_splitB (fun _ => ?_) (fun _ => ?_)))
def badIdx : List PatchD → Nat → Int
  | [], _ => -1
  | p :: ps, i => if patchOk p then badIdx ps (i + 1) else (i : Int)
theorem badIdx_ok : ∀ {ps : List PatchD} {i : Nat}, (0 ≤ badIdx ps i ↔ ¬ ∀ p ∈ ps, patchOk p)
  | [], i => by simp [badIdx]
  | p :: ps, i => by
    unfold badIdx
    by_cases h : patchOk p
    · rw [if_pos h, badIdx_ok]; simp [h]
    · rw [if_neg h]; simp [h]
theorem drop_cons {ps : List PatchD} {i : Nat} (h : i < ps.length) : ps.drop i = ps[i] :: ps.drop (i + 1) := List.drop_eq_getElem_cons h
theorem indexBad_ac (ps : List PatchD) (hl : ps.length ≤ 1048576) (hs : ∀ p ∈ ps, smallP p) : AC Try.prog 98 [.lst (ps.map patchV), .func 70 []] (.int .i64 (badIdx ps 0)) := by
  refine AC.of_run mo Try.func98 Try.call98 ⟨rfl, Try.ntmps98, Try.results98, by kernel_rfl⟩ rfl ?_
  repeat' (first | simp only [go_sem, ↓reduceIte, Nat.reduceEqDiff, Nat.reduceAdd, Nat.reduceMul, Nat.reduceSub, Nat.reduceLeDiff, Nat.reduceLT, Nat.reduceBEq, Nat.reduceBNe, Int.reduceLT, Int.reduceLE, Int.reduceEq, Int.reduceNeg, Int.reduceToNat, Int.toNat_natCast, Int.natCast_nonneg, List.length_append, List.length_map, List.length_replicate, Bool.and_eq_true, decide_eq_true_eq, List.length_take, List.length_drop, Int.reduceSub, Int.reduceAdd, Int.reduceMul, Int.sub_zero, Int.add_zero, Int.zero_add, reduceCtorEq, decide_true, decide_false, Bool.false_eq_true, List.reduceReplicate, *] | simp (disch := omega) only [wrap_i64, wrap_u8, Int.tdiv_eq_ediv_of_nonneg, Int.tmod_eq_emod_of_nonneg, if_pos] | refine callP_x ?_ | (refine ret_gen (by first | exact .inr rfl | exact .inl rfl) (rfl) ?_) | (refine guardP_split (fun _ => ?_) (fun _ => ?_)) | (refine condP_split (fun _ => ?_) (fun _ => ?_)) | (refine guardP_splitB (fun _ => ?_) (fun _ => ?_)) | (refine condP_splitB (fun _ => ?_) (fun _ => ?_)))
  refine sx_loop (fun m s => ∃ i, i ≤ ps.length ∧ m = ps.length - i ∧ s.τ 0 = .lst (ps.map patchV) ∧ s.τ 1 = .func 70 [] ∧ s.τ 7 = .int .i64 ps.length ∧ s.τ 8 = .int .i64 (i : Int) ∧ badIdx (ps.drop i) i = badIdx ps 0) ps.length ⟨0, by simp [go_sem]⟩ ?_
  rintro m s ⟨i, hi, rfl, t0, t1, t7, t8, hb⟩
  simp only [go_sem, ↓reduceIte, Nat.reduceEqDiff, Nat.reduceAdd, Nat.reduceMul, Nat.reduceSub, Nat.reduceLeDiff, Nat.reduceLT, Nat.reduceBEq, Nat.reduceBNe, Int.reduceLT, Int.reduceLE, Int.reduceEq, Int.reduceNeg, Int.reduceToNat, Int.toNat_natCast, Int.natCast_nonneg, List.length_append, List.length_map, List.length_replicate, Bool.and_eq_true, decide_eq_true_eq, List.length_take, List.length_drop, Int.reduceSub, Int.reduceAdd, Int.reduceMul, Int.sub_zero, Int.add_zero, Int.zero_add, reduceCtorEq, decide_true, decide_false, Bool.false_eq_true, List.reduceReplicate, t0, t1, t7, t8]
  refine condP_split (fun hc => ?_) (fun hc => ?_)
  · have hlt : i < ps.length := by omega
    have hg := get_map (f := patchV) hlt
    have hn := notOk_ac ps[i] (hs _ (List.getElem_mem hlt))
    rw [drop_cons hlt, badIdx] at hb
    by_cases hok : patchOk ps[i]
    · rw [if_pos hok] at hb
      rw [decide_eq_true hok] at hn
      clear hok
      repeat' (first | simp only [go_sem, ↓reduceIte, Nat.reduceEqDiff, Nat.reduceAdd, Nat.reduceMul, Nat.reduceSub, Nat.reduceLeDiff, Nat.reduceLT, Nat.reduceBEq, Nat.reduceBNe, Int.reduceLT, Int.reduceLE, Int.reduceEq, Int.reduceNeg, Int.reduceToNat, Int.toNat_natCast, Int.natCast_nonneg, List.length_append, List.length_map, List.length_replicate, Bool.and_eq_true, decide_eq_true_eq, List.length_take, List.length_drop, Int.reduceSub, Int.reduceAdd, Int.reduceMul, Int.sub_zero, Int.add_zero, Int.zero_add, reduceCtorEq, decide_true, decide_false, Bool.false_eq_true, List.reduceReplicate, *] | simp (disch := omega) only [wrap_i64, wrap_u8, Int.tdiv_eq_ediv_of_nonneg, Int.tmod_eq_emod_of_nonneg, if_pos] | (refine callP_0 (hn ..) (rfl) (rfl) ?_) | (refine callX_ac (hn ..) (rfl) (rfl) ?_) | refine callP_x ?_ | (refine ret_gen (by first | exact .inr rfl | exact .inl rfl) (rfl) ?_) | (refine guardP_split (fun _ => ?_) (fun _ => ?_)) | (refine condP_split (fun _ => ?_) (fun _ => ?_)) | (refine guardP_splitB (fun _ => ?_) (fun _ => ?_)) | (refine condP_splitB (fun _ => ?_) (fun _ => ?_)))
      exact ⟨ps.length - (i + 1), by omega, i + 1, by omega, rfl, by simp only [Int.natCast_add, Int.cast_ofNat_Int], hb⟩
    · rw [if_neg hok] at hb
      rw [decide_eq_false hok] at hn
      rw [← hb]
      clear hok hb
      repeat' (first | simp only [go_sem, ↓reduceIte, Nat.reduceEqDiff, Nat.reduceAdd, Nat.reduceMul, Nat.reduceSub, Nat.reduceLeDiff, Nat.reduceLT, Nat.reduceBEq, Nat.reduceBNe, Int.reduceLT, Int.reduceLE, Int.reduceEq, Int.reduceNeg, Int.reduceToNat, Int.toNat_natCast, Int.natCast_nonneg, List.length_append, List.length_map, List.length_replicate, Bool.and_eq_true, decide_eq_true_eq, List.length_take, List.length_drop, Int.reduceSub, Int.reduceAdd, Int.reduceMul, Int.sub_zero, Int.add_zero, Int.zero_add, reduceCtorEq, decide_true, decide_false, Bool.false_eq_true, List.reduceReplicate, *] | simp (disch := omega) only [wrap_i64, wrap_u8, Int.tdiv_eq_ediv_of_nonneg, Int.tmod_eq_emod_of_nonneg, if_pos] | (refine callP_0 (hn ..) (rfl) (rfl) ?_) | (refine callX_ac (hn ..) (rfl) (rfl) ?_) | refine callP_x ?_ | (refine ret_gen (by first | exact .inr rfl | exact .inl rfl) (rfl) ?_) | (refine guardP_split (fun _ => ?_) (fun _ => ?_)) | (refine condP_split (fun _ => ?_) (fun _ => ?_)) | (refine guardP_splitB (fun _ => ?_) (fun _ => ?_)) | (refine condP_splitB (fun _ => ?_) (fun _ => ?_)))
  · have e : i = ps.length := by omega
    subst e
    rw [List.drop_length] at hb
    repeat' (first | simp only [go_sem, ↓reduceIte, Nat.reduceEqDiff, Nat.reduceAdd, Nat.reduceMul, Nat.reduceSub, Nat.reduceLeDiff, Nat.reduceLT, Nat.reduceBEq, Nat.reduceBNe, Int.reduceLT, Int.reduceLE, Int.reduceEq, Int.reduceNeg, Int.reduceToNat, Int.toNat_natCast, Int.natCast_nonneg, List.length_append, List.length_map, List.length_replicate, Bool.and_eq_true, decide_eq_true_eq, List.length_take, List.length_drop, Int.reduceSub, Int.reduceAdd, Int.reduceMul, Int.sub_zero, Int.add_zero, Int.zero_add, reduceCtorEq, decide_true, decide_false, Bool.false_eq_true, List.reduceReplicate, *] | simp (disch := omega) only [wrap_i64, wrap_u8, Int.tdiv_eq_ediv_of_nonneg, Int.tmod_eq_emod_of_nonneg, if_pos] | refine callP_x ?_ | (refine ret_gen (by first | exact .inr rfl | exact .inl rfl) (rfl) ?_) | (refine guardP_split (fun _ => ?_) (fun _ => ?_)) | (refine condP_split (fun _ => ?_) (fun _ => ?_)) | (refine guardP_splitB (fun _ => ?_) (fun _ => ?_)) | (refine condP_splitB (fun _ => ?_) (fun _ => ?_)))
    exact hb
theorem containsBad_ac (ps : List PatchD) (hl : ps.length ≤ 1048576) (hs : ∀ p ∈ ps, smallP p) : AC Try.prog 69 [.lst (ps.map patchV), .func 70 []] (.bool (decide (¬ ∀ p ∈ ps, patchOk p))) := by
  have h := indexBad_ac ps hl hs
  refine AC.of_run mo Try.func69 Try.call69 ⟨rfl, Try.ntmps69, Try.results69, by kernel_rfl⟩ rfl ?_
  repeat' (first | simp only [go_sem, ↓reduceIte, Nat.reduceEqDiff, Nat.reduceAdd, Nat.reduceMul, Nat.reduceSub, Nat.reduceLeDiff, Nat.reduceLT, Nat.reduceBEq, Nat.reduceBNe, Int.reduceLT, Int.reduceLE, Int.reduceEq, Int.reduceNeg, Int.reduceToNat, Int.toNat_natCast, Int.natCast_nonneg, List.length_append, List.length_map, List.length_replicate, Bool.and_eq_true, decide_eq_true_eq, List.length_take, List.length_drop, Int.reduceSub, Int.reduceAdd, Int.reduceMul, Int.sub_zero, Int.add_zero, Int.zero_add, reduceCtorEq, decide_true, decide_false, Bool.false_eq_true, List.reduceReplicate, *] | simp (disch := omega) only [wrap_i64, wrap_u8, Int.tdiv_eq_ediv_of_nonneg, Int.tmod_eq_emod_of_nonneg, if_pos] | (refine callP_0 (h ..) (rfl) (rfl) ?_) | (refine callX_ac (h ..) (rfl) (rfl) ?_) | refine callP_x ?_ | (refine ret_gen (by first | exact .inr rfl | exact .inl rfl) (rfl) ?_) | (refine guardP_split (fun _ => ?_) (fun _ => ?_)) | (refine condP_split (fun _ => ?_) (fun _ => ?_)) | (refine guardP_splitB (fun _ => ?_) (fun _ => ?_)) | (refine condP_splitB (fun _ => ?_) (fun _ => ?_)))
  rw [decide_eq_decide]
  exact badIdx_ok
def goA : List PatchD → Nat → List UInt8 → AV
  | [], i, s => .tup [.str s, .int .i64 (i : Int), .int .i64 0]
  | p :: ps, i, s => if (appX p s).2 = 0 then goA ps (i + 1) (appX p s).1 else .tup [.str [], .int .i64 (i : Int), .int .i64 (appX p s).2]
def allR (ps : List PatchD) (s : List UInt8) : AV := if ∀ p ∈ ps, patchOk p then goA ps 0 s else .tup [.str [], .int .i64 0, .int .i64 1]
theorem goA_three : ∀ (ps : List PatchD) (i : Nat) (s : List UInt8), ∃ x y z, goA ps i s = .tup [.str x, .int .i64 y, .int .i64 z]
  | [], i, s => ⟨_, _, _, rfl⟩
  | p :: ps, i, s => by
    unfold goA
    split
    · exact goA_three ps _ _
    · exact ⟨_, _, _, rfl⟩
theorem allR_three (ps : List PatchD) (s : List UInt8) : ∃ x y z, allR ps s = .tup [.str x, .int .i64 y, .int .i64 z] := by
  unfold allR
  split
  · exact goA_three _ _ _
  · exact ⟨_, _, _, rfl⟩
theorem sizeP_ac (ps : List PatchD) (hl : ps.length ≤ 1048576) : AC Try.prog 71 [.lst (ps.map patchV)] (.int .i64 ps.length) := by
  refine AC.of_run mo Try.func71 Try.call71 ⟨rfl, Try.ntmps71, Try.results71, by kernel_rfl⟩ rfl ?_
  repeat' (first | simp only [go_sem, ↓reduceIte, Nat.reduceEqDiff, Nat.reduceAdd, Nat.reduceMul, Nat.reduceSub, Nat.reduceLeDiff, Nat.reduceLT, Nat.reduceBEq, Nat.reduceBNe, Int.reduceLT, Int.reduceLE, Int.reduceEq, Int.reduceNeg, Int.reduceToNat, Int.toNat_natCast, Int.natCast_nonneg, List.length_append, List.length_map, List.length_replicate, Bool.and_eq_true, decide_eq_true_eq, List.length_take, List.length_drop, Int.reduceSub, Int.reduceAdd, Int.reduceMul, Int.sub_zero, Int.add_zero, Int.zero_add, reduceCtorEq, decide_true, decide_false, Bool.false_eq_true, List.reduceReplicate, *] | simp (disch := omega) only [wrap_i64, wrap_u8, Int.tdiv_eq_ediv_of_nonneg, Int.tmod_eq_emod_of_nonneg, if_pos] | refine callP_x ?_ | (refine ret_gen (by first | exact .inr rfl | exact .inl rfl) (rfl) ?_) | (refine guardP_split (fun _ => ?_) (fun _ => ?_)) | (refine condP_split (fun _ => ?_) (fun _ => ?_)) | (refine guardP_splitB (fun _ => ?_) (fun _ => ?_)) | (refine condP_splitB (fun _ => ?_) (fun _ => ?_)))
theorem iApplyAll_ac (ps : List PatchD) (b : List UInt8) (hb : b.length ≤ 1048576) (hl : ps.length ≤ 1048576) (hs : ∀ p ∈ ps, smallP p) : AC Try.prog 30 [.lst (ps.map patchV), .str b] (allR ps b) := by
  have hco := containsBad_ac ps hl hs
  have hsz := sizeP_ac ps hl
  by_cases hall : ∀ p ∈ ps, patchOk p
  · rw [decide_eq_false (fun h => h hall)] at hco
    have hR : allR ps b = goA ps 0 b := by unfold allR; rw [if_pos hall]
    rw [hR]
    obtain ⟨x, y, z, hR2⟩ := goA_three ps 0 b
    rw [hR2]
    refine AC.of_run mo Try.func30 Try.call30 ⟨rfl, Try.ntmps30, Try.results30, by kernel_rfl⟩ rfl ?_
    repeat' (first | simp only [go_sem, ↓reduceIte, Nat.reduceEqDiff, Nat.reduceAdd, Nat.reduceMul, Nat.reduceSub, Nat.reduceLeDiff, Nat.reduceLT, Nat.reduceBEq, Nat.reduceBNe, Int.reduceLT, Int.reduceLE, Int.reduceEq, Int.reduceNeg, Int.reduceToNat, Int.toNat_natCast, Int.natCast_nonneg, List.length_append, List.length_map, List.length_replicate, Bool.and_eq_true, decide_eq_true_eq, List.length_take, List.length_drop, Int.reduceSub, Int.reduceAdd, Int.reduceMul, Int.sub_zero, Int.add_zero, Int.zero_add, reduceCtorEq, decide_true, decide_false, Bool.false_eq_true, List.reduceReplicate, *] | simp (disch := omega) only [wrap_i64, wrap_u8, Int.tdiv_eq_ediv_of_nonneg, Int.tmod_eq_emod_of_nonneg, if_pos] | (refine callP_0 (hco ..) (rfl) (rfl) ?_) | (refine callX_ac (hco ..) (rfl) (rfl) ?_) | refine callP_x ?_ | (refine ret_gen (by first | exact .inr rfl | exact .inl rfl) (rfl) ?_) | (refine guardP_split (fun _ => ?_) (fun _ => ?_)) | (refine condP_split (fun _ => ?_) (fun _ => ?_)) | (refine guardP_splitB (fun _ => ?_) (fun _ => ?_)) | (refine condP_splitB (fun _ => ?_) (fun _ => ?_)))
    refine sx_loop (fun m s => ∃ i c, i ≤ ps.length ∧ m = ps.length - i ∧ s.τ 0 = .lst (ps.map patchV) ∧ s.τ 1 = .str c ∧ s.τ 13 = .lst (ps.map patchV) ∧ s.τ 14 = .int .i64 ps.length ∧ s.τ 15 = .int .i64 (i : Int) ∧ c.length ≤ 1048576 ∧ goA (ps.drop i) i c = .tup [.str x, .int .i64 y, .int .i64 z]) ps.length ⟨0, b, by simp [go_sem, hb, hR2]⟩ ?_
    rintro m s ⟨i, c, hi, rfl, t0, t1, t13, t14, t15, hcl, hgo⟩
    simp only [go_sem, ↓reduceIte, Nat.reduceEqDiff, Nat.reduceAdd, Nat.reduceMul, Nat.reduceSub, Nat.reduceLeDiff, Nat.reduceLT, Nat.reduceBEq, Nat.reduceBNe, Int.reduceLT, Int.reduceLE, Int.reduceEq, Int.reduceNeg, Int.reduceToNat, Int.toNat_natCast, Int.natCast_nonneg, List.length_append, List.length_map, List.length_replicate, Bool.and_eq_true, decide_eq_true_eq, List.length_take, List.length_drop, Int.reduceSub, Int.reduceAdd, Int.reduceMul, Int.sub_zero, Int.add_zero, Int.zero_add, reduceCtorEq, decide_true, decide_false, Bool.false_eq_true, List.reduceReplicate, t0, t1, t13, t14, t15]
    refine condP_split (fun hc => ?_) (fun hc => ?_)
    · have hlt : i < ps.length := by omega
      have hg := get_map (f := patchV) hlt
      have hok := hall _ (List.getElem_mem hlt)
      have ha := iApplyPatch_ac ps[i] c hcl (hs _ (List.getElem_mem hlt)).2
      have hxl := appX_len hok c
      rw [appR_X hok] at ha
      rw [drop_cons hlt, goA] at hgo
      generalize appX ps[i] c = r at ha hgo hxl
      obtain ⟨r1, r2⟩ := r
      simp only at ha hgo hxl
      by_cases hr : r2 = 0
      · subst hr
        rw [if_pos rfl] at hgo
        clear hok
        repeat' (first | simp only [go_sem, ↓reduceIte, Nat.reduceEqDiff, Nat.reduceAdd, Nat.reduceMul, Nat.reduceSub, Nat.reduceLeDiff, Nat.reduceLT, Nat.reduceBEq, Nat.reduceBNe, Int.reduceLT, Int.reduceLE, Int.reduceEq, Int.reduceNeg, Int.reduceToNat, Int.toNat_natCast, Int.natCast_nonneg, List.length_append, List.length_map, List.length_replicate, Bool.and_eq_true, decide_eq_true_eq, List.length_take, List.length_drop, Int.reduceSub, Int.reduceAdd, Int.reduceMul, Int.sub_zero, Int.add_zero, Int.zero_add, reduceCtorEq, decide_true, decide_false, Bool.false_eq_true, List.reduceReplicate, *] | simp (disch := omega) only [wrap_i64, wrap_u8, Int.tdiv_eq_ediv_of_nonneg, Int.tmod_eq_emod_of_nonneg, if_pos] | (refine callP_0 (ha ..) (rfl) (rfl) ?_) | (refine callX_ac (ha ..) (rfl) (rfl) ?_) | refine callP_x ?_ | (refine ret_gen (by first | exact .inr rfl | exact .inl rfl) (rfl) ?_) | (refine guardP_split (fun _ => ?_) (fun _ => ?_)) | (refine condP_split (fun _ => ?_) (fun _ => ?_)) | (refine guardP_splitB (fun _ => ?_) (fun _ => ?_)) | (refine condP_splitB (fun _ => ?_) (fun _ => ?_)))
        exact ⟨ps.length - (i + 1), by omega, i + 1, r1, by omega, rfl, rfl, by simp only [Int.natCast_add, Int.cast_ofNat_Int], hxl, hgo⟩
      · rw [if_neg hr] at hgo
        simp only [AV.tup.injEq, List.cons.injEq, AV.str.injEq, AV.int.injEq, and_true, true_and] at hgo
        obtain ⟨rfl, rfl, rfl⟩ := hgo
        clear hok
        repeat' (first | simp only [go_sem, ↓reduceIte, Nat.reduceEqDiff, Nat.reduceAdd, Nat.reduceMul, Nat.reduceSub, Nat.reduceLeDiff, Nat.reduceLT, Nat.reduceBEq, Nat.reduceBNe, Int.reduceLT, Int.reduceLE, Int.reduceEq, Int.reduceNeg, Int.reduceToNat, Int.toNat_natCast, Int.natCast_nonneg, List.length_append, List.length_map, List.length_replicate, Bool.and_eq_true, decide_eq_true_eq, List.length_take, List.length_drop, Int.reduceSub, Int.reduceAdd, Int.reduceMul, Int.sub_zero, Int.add_zero, Int.zero_add, reduceCtorEq, decide_true, decide_false, Bool.false_eq_true, List.reduceReplicate, *] | simp (disch := omega) only [wrap_i64, wrap_u8, Int.tdiv_eq_ediv_of_nonneg, Int.tmod_eq_emod_of_nonneg, if_pos] | (refine callP_0 (ha ..) (rfl) (rfl) ?_) | (refine callX_ac (ha ..) (rfl) (rfl) ?_) | refine callP_x ?_ | (refine ret_gen (by first | exact .inr rfl | exact .inl rfl) (rfl) ?_) | (refine guardP_split (fun _ => ?_) (fun _ => ?_)) | (refine condP_split (fun _ => ?_) (fun _ => ?_)) | (refine guardP_splitB (fun _ => ?_) (fun _ => ?_)) | (refine condP_splitB (fun _ => ?_) (fun _ => ?_)))
    · have e : i = ps.length := by omega
      subst e
      rw [List.drop_length, goA] at hgo
      simp only [AV.tup.injEq, List.cons.injEq, AV.str.injEq, AV.int.injEq, and_true, true_and] at hgo
      obtain ⟨rfl, rfl, rfl⟩ := hgo
      repeat' (first | simp only [go_sem, ↓reduceIte, Nat.reduceEqDiff, Nat.reduceAdd, Nat.reduceMul, Nat.reduceSub, Nat.reduceLeDiff, Nat.reduceLT, Nat.reduceBEq, Nat.reduceBNe, Int.reduceLT, Int.reduceLE, Int.reduceEq, Int.reduceNeg, Int.reduceToNat, Int.toNat_natCast, Int.natCast_nonneg, List.length_append, List.length_map, List.length_replicate, Bool.and_eq_true, decide_eq_true_eq, List.length_take, List.length_drop, Int.reduceSub, Int.reduceAdd, Int.reduceMul, Int.sub_zero, Int.add_zero, Int.zero_add, reduceCtorEq, decide_true, decide_false, Bool.false_eq_true, List.reduceReplicate, *] | simp (disch := omega) only [wrap_i64, wrap_u8, Int.tdiv_eq_ediv_of_nonneg, Int.tmod_eq_emod_of_nonneg, if_pos] | (refine callP_0 (hsz ..) (rfl) (rfl) ?_) | (refine callX_ac (hsz ..) (rfl) (rfl) ?_) | refine callP_x ?_ | (refine ret_gen (by first | exact .inr rfl | exact .inl rfl) (rfl) ?_) | (refine guardP_split (fun _ => ?_) (fun _ => ?_)) | (refine condP_split (fun _ => ?_) (fun _ => ?_)) | (refine guardP_splitB (fun _ => ?_) (fun _ => ?_)) | (refine condP_splitB (fun _ => ?_) (fun _ => ?_)))
  · rw [decide_eq_true hall] at hco
    have hR : allR ps b = .tup [.str [], .int .i64 0, .int .i64 1] := by unfold allR; rw [if_neg hall]
    rw [hR]
    clear hall
    refine AC.of_run mo Try.func30 Try.call30 ⟨rfl, Try.ntmps30, Try.results30, by kernel_rfl⟩ rfl ?_
    repeat' (first | simp only [go_sem, ↓reduceIte, Nat.reduceEqDiff, Nat.reduceAdd, Nat.reduceMul, Nat.reduceSub, Nat.reduceLeDiff, Nat.reduceLT, Nat.reduceBEq, Nat.reduceBNe, Int.reduceLT, Int.reduceLE, Int.reduceEq, Int.reduceNeg, Int.reduceToNat, Int.toNat_natCast, Int.natCast_nonneg, List.length_append, List.length_map, List.length_replicate, Bool.and_eq_true, decide_eq_true_eq, List.length_take, List.length_drop, Int.reduceSub, Int.reduceAdd, Int.reduceMul, Int.sub_zero, Int.add_zero, Int.zero_add, reduceCtorEq, decide_true, decide_false, Bool.false_eq_true, List.reduceReplicate, *] | simp (disch := omega) only [wrap_i64, wrap_u8, Int.tdiv_eq_ediv_of_nonneg, Int.tmod_eq_emod_of_nonneg, if_pos] | (refine callP_0 (hco ..) (rfl) (rfl) ?_) | (refine callX_ac (hco ..) (rfl) (rfl) ?_) | refine callP_x ?_ | (refine ret_gen (by first | exact .inr rfl | exact .inl rfl) (rfl) ?_) | (refine guardP_split (fun _ => ?_) (fun _ => ?_)) | (refine condP_split (fun _ => ?_) (fun _ => ?_)) | (refine guardP_splitB (fun _ => ?_) (fun _ => ?_)) | (refine condP_splitB (fun _ => ?_) (fun _ => ?_)))
theorem l29OkE_ac (p : PatchD) (hs : smallP p) : AC Try.prog 44 [.dptr [.int .i64 p.src, .int .i64 p.dst, .int .i64 p.sumFrom, .int .i64 p.sumTo, .lst (p.hunks.map hunkV)]] (.bool (decide (patchOk p))) := l29Ok_ac p hs.2
theorem sApplyAll_ac (ps : List PatchD) (b : List UInt8) (hb : b.length ≤ 1048576) (hl : ps.length ≤ 1048576) (hs : ∀ p ∈ ps, smallP p) : AC Try.prog 36 [.lst (ps.map patchV), .str b] (allR ps b) := by
  obtain ⟨x, y, z, hR2⟩ := allR_three ps b
  rw [hR2]
  refine AC.of_run mo Try.func36 Try.call36 ⟨rfl, Try.ntmps36, Try.results36, by kernel_rfl⟩ rfl ?_
  repeat' (first | simp only [go_sem, ↓reduceIte, Nat.reduceEqDiff, Nat.reduceAdd, Nat.reduceMul, Nat.reduceSub, Nat.reduceLeDiff, Nat.reduceLT, Nat.reduceBEq, Nat.reduceBNe, Int.reduceLT, Int.reduceLE, Int.reduceEq, Int.reduceNeg, Int.reduceToNat, Int.toNat_natCast, Int.natCast_nonneg, List.length_append, List.length_map, List.length_replicate, Bool.and_eq_true, decide_eq_true_eq, List.length_take, List.length_drop, Int.reduceSub, Int.reduceAdd, Int.reduceMul, Int.sub_zero, Int.add_zero, Int.zero_add, reduceCtorEq, decide_true, decide_false, Bool.false_eq_true, List.reduceReplicate, *] | simp (disch := omega) only [wrap_i64, wrap_u8, Int.tdiv_eq_ediv_of_nonneg, Int.tmod_eq_emod_of_nonneg, if_pos] | refine callP_x ?_ | (refine ret_gen (by first | exact .inr rfl | exact .inl rfl) (rfl) ?_) | (refine guardP_split (fun _ => ?_) (fun _ => ?_)) | (refine condP_split (fun _ => ?_) (fun _ => ?_)) | (refine guardP_splitB (fun _ => ?_) (fun _ => ?_)) | (refine condP_splitB (fun _ => ?_) (fun _ => ?_)))
  refine sx_loop (fun m s => ∃ i, i ≤ ps.length ∧ m = ps.length - i ∧ s.τ 0 = .lst (ps.map patchV) ∧ s.τ 1 = .str b ∧ s.τ 7 = .int .i64 (i : Int) ∧ ∀ j (h : j < ps.length), j < i → patchOk ps[j]) ps.length ⟨0, by simp [go_sem]⟩ ?_
  rintro m s ⟨i, hi, rfl, t0, t1, t7, hok⟩
  simp only [go_sem, ↓reduceIte, Nat.reduceEqDiff, Nat.reduceAdd, Nat.reduceMul, Nat.reduceSub, Nat.reduceLeDiff, Nat.reduceLT, Nat.reduceBEq, Nat.reduceBNe, Int.reduceLT, Int.reduceLE, Int.reduceEq, Int.reduceNeg, Int.reduceToNat, Int.toNat_natCast, Int.natCast_nonneg, List.length_append, List.length_map, List.length_replicate, Bool.and_eq_true, decide_eq_true_eq, List.length_take, List.length_drop, Int.reduceSub, Int.reduceAdd, Int.reduceMul, Int.sub_zero, Int.add_zero, Int.zero_add, reduceCtorEq, decide_true, decide_false, Bool.false_eq_true, List.reduceReplicate, t0, t1, t7]
  refine condP_split (fun hc => ?_) (fun hc => ?_)
  · have hlt : i < ps.length := by omega
    have hg := get_map (f := patchV) hlt
    have hv := l29OkE_ac ps[i] (hs _ (List.getElem_mem hlt))
    by_cases hp : patchOk ps[i]
    · rw [decide_eq_true hp] at hv
      repeat' (first | simp only [go_sem, ↓reduceIte, Nat.reduceEqDiff, Nat.reduceAdd, Nat.reduceMul, Nat.reduceSub, Nat.reduceLeDiff, Nat.reduceLT, Nat.reduceBEq, Nat.reduceBNe, Int.reduceLT, Int.reduceLE, Int.reduceEq, Int.reduceNeg, Int.reduceToNat, Int.toNat_natCast, Int.natCast_nonneg, List.length_append, List.length_map, List.length_replicate, Bool.and_eq_true, decide_eq_true_eq, List.length_take, List.length_drop, Int.reduceSub, Int.reduceAdd, Int.reduceMul, Int.sub_zero, Int.add_zero, Int.zero_add, reduceCtorEq, decide_true, decide_false, Bool.false_eq_true, List.reduceReplicate, *] | simp (disch := omega) only [wrap_i64, wrap_u8, Int.tdiv_eq_ediv_of_nonneg, Int.tmod_eq_emod_of_nonneg, if_pos] | (refine callP_0 (hv ..) (rfl) (rfl) ?_) | (refine callX_ac (hv ..) (rfl) (rfl) ?_) | refine callP_x ?_ | (refine ret_gen (by first | exact .inr rfl | exact .inl rfl) (rfl) ?_) | (refine guardP_split (fun _ => ?_) (fun _ => ?_)) | (refine condP_split (fun _ => ?_) (fun _ => ?_)) | (refine guardP_splitB (fun _ => ?_) (fun _ => ?_)) | (refine condP_splitB (fun _ => ?_) (fun _ => ?_)))
      refine ⟨ps.length - (i + 1), by omega, i + 1, by omega, rfl, by simp only [Int.natCast_add, Int.cast_ofNat_Int], fun j h hj => ?_⟩
      by_cases e : j = i
      · subst e; exact hp
      · exact hok j h (by omega)
    · rw [decide_eq_false hp] at hv
      have hR : allR ps b = .tup [.str [], .int .i64 0, .int .i64 1] := by
        unfold allR
        rw [if_neg fun h => hp (h _ (List.getElem_mem hlt))]
      rw [hR] at hR2
      simp only [AV.tup.injEq, List.cons.injEq, AV.str.injEq, AV.int.injEq, and_true, true_and] at hR2
      obtain ⟨rfl, rfl, rfl⟩ := hR2
      clear hp
      repeat' (first | simp only [go_sem, ↓reduceIte, Nat.reduceEqDiff, Nat.reduceAdd, Nat.reduceMul, Nat.reduceSub, Nat.reduceLeDiff, Nat.reduceLT, Nat.reduceBEq, Nat.reduceBNe, Int.reduceLT, Int.reduceLE, Int.reduceEq, Int.reduceNeg, Int.reduceToNat, Int.toNat_natCast, Int.natCast_nonneg, List.length_append, List.length_map, List.length_replicate, Bool.and_eq_true, decide_eq_true_eq, List.length_take, List.length_drop, Int.reduceSub, Int.reduceAdd, Int.reduceMul, Int.sub_zero, Int.add_zero, Int.zero_add, reduceCtorEq, decide_true, decide_false, Bool.false_eq_true, List.reduceReplicate, *] | simp (disch := omega) only [wrap_i64, wrap_u8, Int.tdiv_eq_ediv_of_nonneg, Int.tmod_eq_emod_of_nonneg, if_pos] | (refine callP_0 (hv ..) (rfl) (rfl) ?_) | (refine callX_ac (hv ..) (rfl) (rfl) ?_) | refine callP_x ?_ | (refine ret_gen (by first | exact .inr rfl | exact .inl rfl) (rfl) ?_) | (refine guardP_split (fun _ => ?_) (fun _ => ?_)) | (refine condP_split (fun _ => ?_) (fun _ => ?_)) | (refine guardP_splitB (fun _ => ?_) (fun _ => ?_)) | (refine condP_splitB (fun _ => ?_) (fun _ => ?_)))
  · have e : i = ps.length := by omega
    subst e
    have hall : ∀ p ∈ ps, patchOk p := fun p hp => by
      obtain ⟨j, hj, rfl⟩ := List.mem_iff_getElem.1 hp
      exact hok j hj hj
    have hR : allR ps b = goA ps 0 b := by unfold allR; rw [if_pos hall]
    rw [hR] at hR2
    clear hok hR hc t7
    repeat' (first | simp only [go_sem, ↓reduceIte, Nat.reduceEqDiff, Nat.reduceAdd, Nat.reduceMul, Nat.reduceSub, Nat.reduceLeDiff, Nat.reduceLT, Nat.reduceBEq, Nat.reduceBNe, Int.reduceLT, Int.reduceLE, Int.reduceEq, Int.reduceNeg, Int.reduceToNat, Int.toNat_natCast, Int.natCast_nonneg, List.length_append, List.length_map, List.length_replicate, Bool.and_eq_true, decide_eq_true_eq, List.length_take, List.length_drop, Int.reduceSub, Int.reduceAdd, Int.reduceMul, Int.sub_zero, Int.add_zero, Int.zero_add, reduceCtorEq, decide_true, decide_false, Bool.false_eq_true, List.reduceReplicate, *] | simp (disch := omega) only [wrap_i64, wrap_u8, Int.tdiv_eq_ediv_of_nonneg, Int.tmod_eq_emod_of_nonneg, if_pos] | refine callP_x ?_ | (refine ret_gen (by first | exact .inr rfl | exact .inl rfl) (rfl) ?_) | (refine guardP_split (fun _ => ?_) (fun _ => ?_)) | (refine condP_split (fun _ => ?_) (fun _ => ?_)) | (refine guardP_splitB (fun _ => ?_) (fun _ => ?_)) | (refine condP_splitB (fun _ => ?_) (fun _ => ?_)))
    refine sx_loop (fun m s => ∃ i c, i ≤ ps.length ∧ m = ps.length - i ∧ s.τ 0 = .lst (ps.map patchV) ∧ s.τ 1 = .str c ∧ s.τ 8 = .int .i64 (i : Int) ∧ c.length ≤ 1048576 ∧ goA (ps.drop i) i c = .tup [.str x, .int .i64 y, .int .i64 z]) ps.length ⟨0, b, by simp [go_sem, hb, hR2, t0, t1]⟩ ?_
    clear t0 t1
    rintro m s ⟨i, c, hi, rfl, t0, t1, t8, hcl, hgo⟩
    simp only [go_sem, ↓reduceIte, Nat.reduceEqDiff, Nat.reduceAdd, Nat.reduceMul, Nat.reduceSub, Nat.reduceLeDiff, Nat.reduceLT, Nat.reduceBEq, Nat.reduceBNe, Int.reduceLT, Int.reduceLE, Int.reduceEq, Int.reduceNeg, Int.reduceToNat, Int.toNat_natCast, Int.natCast_nonneg, List.length_append, List.length_map, List.length_replicate, Bool.and_eq_true, decide_eq_true_eq, List.length_take, List.length_drop, Int.reduceSub, Int.reduceAdd, Int.reduceMul, Int.sub_zero, Int.add_zero, Int.zero_add, reduceCtorEq, decide_true, decide_false, Bool.false_eq_true, List.reduceReplicate, t0, t1, t8]
    refine condP_split (fun hc => ?_) (fun hc => ?_)
    · have hlt : i < ps.length := by omega
      have hg := get_map (f := patchV) hlt
      have hok := hall _ (List.getElem_mem hlt)
      have ha := l29Apply_ac ps[i] c hcl (hs _ (List.getElem_mem hlt)).2 hok
      have hxl := appX_len hok c
      rw [appR_X hok] at ha
      rw [drop_cons hlt, goA] at hgo
      generalize appX ps[i] c = r at ha hgo hxl
      obtain ⟨r1, r2⟩ := r
      simp only at ha hgo hxl
      by_cases hr : r2 = 0
      · subst hr
        rw [if_pos rfl] at hgo
        clear hok
        repeat' (first | simp only [go_sem, ↓reduceIte, Nat.reduceEqDiff, Nat.reduceAdd, Nat.reduceMul, Nat.reduceSub, Nat.reduceLeDiff, Nat.reduceLT, Nat.reduceBEq, Nat.reduceBNe, Int.reduceLT, Int.reduceLE, Int.reduceEq, Int.reduceNeg, Int.reduceToNat, Int.toNat_natCast, Int.natCast_nonneg, List.length_append, List.length_map, List.length_replicate, Bool.and_eq_true, decide_eq_true_eq, List.length_take, List.length_drop, Int.reduceSub, Int.reduceAdd, Int.reduceMul, Int.sub_zero, Int.add_zero, Int.zero_add, reduceCtorEq, decide_true, decide_false, Bool.false_eq_true, List.reduceReplicate, *] | simp (disch := omega) only [wrap_i64, wrap_u8, Int.tdiv_eq_ediv_of_nonneg, Int.tmod_eq_emod_of_nonneg, if_pos] | (refine callP_0 (ha ..) (rfl) (rfl) ?_) | (refine callX_ac (ha ..) (rfl) (rfl) ?_) | refine callP_x ?_ | (refine ret_gen (by first | exact .inr rfl | exact .inl rfl) (rfl) ?_) | (refine guardP_split (fun _ => ?_) (fun _ => ?_)) | (refine condP_split (fun _ => ?_) (fun _ => ?_)) | (refine guardP_splitB (fun _ => ?_) (fun _ => ?_)) | (refine condP_splitB (fun _ => ?_) (fun _ => ?_)))
        exact ⟨ps.length - (i + 1), by omega, i + 1, r1, by omega, rfl, rfl, by simp only [Int.natCast_add, Int.cast_ofNat_Int], hxl, hgo⟩
      · rw [if_neg hr] at hgo
        simp only [AV.tup.injEq, List.cons.injEq, AV.str.injEq, AV.int.injEq, and_true, true_and] at hgo
        obtain ⟨rfl, rfl, rfl⟩ := hgo
        clear hok
        repeat' (first | simp only [go_sem, ↓reduceIte, Nat.reduceEqDiff, Nat.reduceAdd, Nat.reduceMul, Nat.reduceSub, Nat.reduceLeDiff, Nat.reduceLT, Nat.reduceBEq, Nat.reduceBNe, Int.reduceLT, Int.reduceLE, Int.reduceEq, Int.reduceNeg, Int.reduceToNat, Int.toNat_natCast, Int.natCast_nonneg, List.length_append, List.length_map, List.length_replicate, Bool.and_eq_true, decide_eq_true_eq, List.length_take, List.length_drop, Int.reduceSub, Int.reduceAdd, Int.reduceMul, Int.sub_zero, Int.add_zero, Int.zero_add, reduceCtorEq, decide_true, decide_false, Bool.false_eq_true, List.reduceReplicate, *] | simp (disch := omega) only [wrap_i64, wrap_u8, Int.tdiv_eq_ediv_of_nonneg, Int.tmod_eq_emod_of_nonneg, if_pos] | (refine callP_0 (ha ..) (rfl) (rfl) ?_) | (refine callX_ac (ha ..) (rfl) (rfl) ?_) | refine callP_x ?_ | (refine ret_gen (by first | exact .inr rfl | exact .inl rfl) (rfl) ?_) | (refine guardP_split (fun _ => ?_) (fun _ => ?_)) | (refine condP_split (fun _ => ?_) (fun _ => ?_)) | (refine guardP_splitB (fun _ => ?_) (fun _ => ?_)) | (refine condP_splitB (fun _ => ?_) (fun _ => ?_)))
    · have e : i = ps.length := by omega
      subst e
      rw [List.drop_length, goA] at hgo
      simp only [AV.tup.injEq, List.cons.injEq, AV.str.injEq, AV.int.injEq, and_true, true_and] at hgo
      obtain ⟨rfl, rfl, rfl⟩ := hgo
      repeat' (first | simp only [go_sem, ↓reduceIte, Nat.reduceEqDiff, Nat.reduceAdd, Nat.reduceMul, Nat.reduceSub, Nat.reduceLeDiff, Nat.reduceLT, Nat.reduceBEq, Nat.reduceBNe, Int.reduceLT, Int.reduceLE, Int.reduceEq, Int.reduceNeg, Int.reduceToNat, Int.toNat_natCast, Int.natCast_nonneg, List.length_append, List.length_map, List.length_replicate, Bool.and_eq_true, decide_eq_true_eq, List.length_take, List.length_drop, Int.reduceSub, Int.reduceAdd, Int.reduceMul, Int.sub_zero, Int.add_zero, Int.zero_add, reduceCtorEq, decide_true, decide_false, Bool.false_eq_true, List.reduceReplicate, *] | simp (disch := omega) only [wrap_i64, wrap_u8, Int.tdiv_eq_ediv_of_nonneg, Int.tmod_eq_emod_of_nonneg, if_pos] | refine callP_x ?_ | (refine ret_gen (by first | exact .inr rfl | exact .inl rfl) (rfl) ?_) | (refine guardP_split (fun _ => ?_) (fun _ => ?_)) | (refine condP_split (fun _ => ?_) (fun _ => ?_)) | (refine guardP_splitB (fun _ => ?_) (fun _ => ?_)) | (refine condP_splitB (fun _ => ?_) (fun _ => ?_)))
theorem patchS_small {ps : List PatchD} (h : ((ps.length + csum costPatch ps : Nat) : Int) ≤ 1048576) : ps.length ≤ 1048576 ∧ ∀ p ∈ ps, smallP p := by
  refine ⟨by omega, fun p hp => ?_⟩
  have h1 := csum_mem costPatch hp
  exact patch_small (by omega)
end
end Go.Ab
