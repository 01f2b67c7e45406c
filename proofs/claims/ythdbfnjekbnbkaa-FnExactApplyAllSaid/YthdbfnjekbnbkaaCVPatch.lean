/- The contracts of the checks of patches. Conditions: none. -/
import Derived.Test.YthdbfnjekbnbkaaCPatch
namespace Go.Ab
open Go.RowKit Go.Proofs
set_option maxRecDepth 10000
set_option maxHeartbeats 4000000
set_option linter.unusedSimpArgs false
set_option linter.unusedVariables false
noncomputable section
attribute [local go_sem] hunkV_eq
def apart (h : HunkD) (n : Nat) : Prop := ∀ k, k < n → h.old[k]? ≠ h.new[k]?
def hunkOk (p : PatchD) (h : HunkD) : Prop :=
  (0 ≤ h.pos ∧ h.pos ≤ 511) ∧ ¬ (h.old.length = 0 ∧ h.new.length = 0) ∧ h.pos + h.old.length ≤ p.src ∧ h.pos + h.new.length ≤ p.dst ∧ apart h (min h.old.length h.new.length) ∧ (h.old.length = h.new.length ∨ (h.pos + h.old.length = p.src ∧ h.pos + h.new.length = p.dst))
instance (p : PatchD) (h : HunkD) : Decidable (hunkOk p h) := Classical.propDecidable _
theorem apart_succ {h : HunkD} {i : Nat} (ho : i < h.old.length) (hn : i < h.new.length) (ha : apart h i) (hd : ¬ ((h.old[i].toNat : Nat) : Int) = (h.new[i].toNat : Nat)) : apart h (i + 1) := by
  intro k hk
  by_cases e : k = i
  · subst e
    rw [List.getElem?_eq_getElem ho, List.getElem?_eq_getElem hn]
    intro e; injection e with e; rw [e] at hd; exact hd rfl
  · exact ha k (by omega)
theorem apart_not {h : HunkD} {i n : Nat} (ho : i < h.old.length) (hn : i < h.new.length) (hi : i < n) (hd : ((h.old[i].toNat : Nat) : Int) = (h.new[i].toNat : Nat)) : ¬ apart h n := by
  intro ha
  refine ha i hi ?_
  rw [List.getElem?_eq_getElem ho, List.getElem?_eq_getElem hn]
  congr 1
  exact UInt8.toNat_inj.1 (by omega)
theorem validHunk_ac (p : PatchD) (h : HunkD) (h1 : h.old.length ≤ 1048576) (h2 : h.new.length ≤ 1048576) : AC Try.prog 73 [patchV p, hunkV h] (.bool (decide (hunkOk p h))) := by
  simp only [patchV_eq, hunkV_eq]
  refine AC.of_run mo Try.func73 Try.call73 ⟨rfl, Try.ntmps73, Try.results73, by kernel_rfl⟩ rfl ?_
  repeat' (first | simp only [go_sem, ↓reduceIte, Nat.reduceEqDiff, Nat.reduceAdd, Nat.reduceMul, Nat.reduceSub, Nat.reduceLeDiff, Nat.reduceLT, Nat.reduceBEq, Nat.reduceBNe, Int.reduceLT, Int.reduceLE, Int.reduceEq, Int.reduceNeg, Int.reduceToNat, Int.toNat_natCast, Int.natCast_nonneg, List.length_append, List.length_map, List.length_replicate, Bool.and_eq_true, decide_eq_true_eq, List.length_take, List.length_drop, Int.reduceSub, Int.reduceAdd, Int.reduceMul, Int.sub_zero, Int.add_zero, Int.zero_add, reduceCtorEq, decide_true, decide_false, Bool.false_eq_true, List.reduceReplicate, *] | simp (disch := omega) only [wrap_i64, wrap_u8, Int.tdiv_eq_ediv_of_nonneg, Int.tmod_eq_emod_of_nonneg, if_pos] | (refine callP_0 (within_ac ..) (rfl) (rfl) ?_) | (refine callX_ac (within_ac ..) (rfl) (rfl) ?_) | refine callP_x ?_ | (refine ret_gen (by first | exact .inr rfl | exact .inl rfl) (rfl) ?_) | (refine guardP_split (fun _ => ?_) (fun _ => ?_)) | (refine condP_split (fun _ => ?_) (fun _ => ?_)) | (refine guardP_splitB (fun _ => ?_) (fun _ => ?_)) | (refine condP_splitB (fun _ => ?_) (fun _ => ?_)))
  all_goals first
    | (symm; rw [decide_eq_false_iff_not]; rintro ⟨⟨_, _⟩, _, _, _, _, _⟩; omega)
    | skip
  have hmn : (if (h.new.length : Int) < h.old.length then (h.new.length : Int) else h.old.length) = ((min h.old.length h.new.length : Nat) : Int) := by split <;> omega
  refine sx_loop (fun m s => ∃ i, i ≤ min h.old.length h.new.length ∧ m = min h.old.length h.new.length - i ∧ s.τ 2 = .ptr 0 0 0 0 ∧ s.τ 3 = .ptr 1 0 0 0 ∧ s.τ 5 = .int .i64 h.old.length ∧ s.τ 6 = .int .i64 h.new.length ∧ s.τ 44 = .int .i64 (min h.old.length h.new.length : Nat) ∧ s.τ 45 = .int .i64 (i : Int) ∧ apart h i ∧ s.nx = 0 ∧
    s.H 0 = some ⟨5, [patchV p], 0, true⟩ ∧ s.H 1 = some ⟨3, [hunkV h], 0, true⟩) (min h.old.length h.new.length) ⟨0, by simp [go_sem, patchV_eq, apart]; split <;> omega⟩ ?_
  rintro m s ⟨i, hi, rfl, t2, t3, t5, t6, t44, t45, ha, hnx, hH0, hH1⟩
  simp only [patchV_eq, hunkV_eq] at hH0 hH1
  simp only [go_sem, ↓reduceIte, Nat.reduceEqDiff, Nat.reduceAdd, Nat.reduceMul, Nat.reduceSub, Nat.reduceLeDiff, Nat.reduceLT, Nat.reduceBEq, Nat.reduceBNe, Int.reduceLT, Int.reduceLE, Int.reduceEq, Int.reduceNeg, Int.reduceToNat, Int.toNat_natCast, Int.natCast_nonneg, List.length_append, List.length_map, List.length_replicate, Bool.and_eq_true, decide_eq_true_eq, List.length_take, List.length_drop, Int.reduceSub, Int.reduceAdd, Int.reduceMul, Int.sub_zero, Int.add_zero, Int.zero_add, reduceCtorEq, decide_true, decide_false, Bool.false_eq_true, List.reduceReplicate, t2, t3, t5, t6, t44, t45, hnx, hH0, hH1]
  refine condP_split (fun hc => ?_) (fun hc => ?_)
  · have ho : i < h.old.length := by omega
    have hn : i < h.new.length := by omega
    have go := List.getElem?_eq_getElem ho
    have gn := List.getElem?_eq_getElem hn
    clear hmn
    repeat' (first | simp only [go_sem, ↓reduceIte, Nat.reduceEqDiff, Nat.reduceAdd, Nat.reduceMul, Nat.reduceSub, Nat.reduceLeDiff, Nat.reduceLT, Nat.reduceBEq, Nat.reduceBNe, Int.reduceLT, Int.reduceLE, Int.reduceEq, Int.reduceNeg, Int.reduceToNat, Int.toNat_natCast, Int.natCast_nonneg, List.length_append, List.length_map, List.length_replicate, Bool.and_eq_true, decide_eq_true_eq, List.length_take, List.length_drop, Int.reduceSub, Int.reduceAdd, Int.reduceMul, Int.sub_zero, Int.add_zero, Int.zero_add, reduceCtorEq, decide_true, decide_false, Bool.false_eq_true, List.reduceReplicate, *] | simp (disch := omega) only [wrap_i64, wrap_u8, Int.tdiv_eq_ediv_of_nonneg, Int.tmod_eq_emod_of_nonneg, if_pos] | refine callP_x ?_ | (refine ret_gen (by first | exact .inr rfl | exact .inl rfl) (rfl) ?_) | (refine guardP_split (fun _ => ?_) (fun _ => ?_)) | (refine condP_split (fun _ => ?_) (fun _ => ?_)) | (refine guardP_splitB (fun _ => ?_) (fun _ => ?_)) | (refine condP_splitB (fun _ => ?_) (fun _ => ?_)))
    all_goals first
      | (symm; rw [decide_eq_false_iff_not]; rintro ⟨_, _, _, _, hx, _⟩; exact apart_not ho hn (by omega) (by assumption) hx)
      | (refine ⟨min h.old.length h.new.length - (i + 1), by omega, i + 1, by omega, rfl, by simp only [Int.natCast_add, Int.cast_ofNat_Int], apart_succ ho hn ha (by assumption), by simp only [patchV_eq]⟩)
  · have e : i = min h.old.length h.new.length := by omega
    subst e
    clear hmn
    repeat' (first | simp only [go_sem, ↓reduceIte, Nat.reduceEqDiff, Nat.reduceAdd, Nat.reduceMul, Nat.reduceSub, Nat.reduceLeDiff, Nat.reduceLT, Nat.reduceBEq, Nat.reduceBNe, Int.reduceLT, Int.reduceLE, Int.reduceEq, Int.reduceNeg, Int.reduceToNat, Int.toNat_natCast, Int.natCast_nonneg, List.length_append, List.length_map, List.length_replicate, Bool.and_eq_true, decide_eq_true_eq, List.length_take, List.length_drop, Int.reduceSub, Int.reduceAdd, Int.reduceMul, Int.sub_zero, Int.add_zero, Int.zero_add, reduceCtorEq, decide_true, decide_false, Bool.false_eq_true, List.reduceReplicate, *] | simp (disch := omega) only [wrap_i64, wrap_u8, Int.tdiv_eq_ediv_of_nonneg, Int.tmod_eq_emod_of_nonneg, if_pos] | refine callP_x ?_ | (refine ret_gen (by first | exact .inr rfl | exact .inl rfl) (rfl) ?_) | (refine guardP_split (fun _ => ?_) (fun _ => ?_)) | (refine condP_split (fun _ => ?_) (fun _ => ?_)) | (refine guardP_splitB (fun _ => ?_) (fun _ => ?_)) | (refine condP_splitB (fun _ => ?_) (fun _ => ?_)))
    all_goals first
      | (symm; rw [decide_eq_true_iff]; exact ⟨by omega, by omega, by omega, by omega, ha, by omega⟩)
      | (symm; rw [decide_eq_false_iff_not]; rintro ⟨_, _, _, _, _, _⟩; omega)
      | (rw [decide_eq_decide]; exact ⟨fun _ => ⟨by omega, by omega, by omega, by omega, ha, by omega⟩, fun ⟨_, _, _, _, _, _⟩ => by omega⟩)
theorem isWord_ac (x : Int) : AC Try.prog 72 [.int .i64 x] (.bool (decide (0 ≤ x ∧ x ≤ 65535))) := by
  refine AC.of_run mo Try.func72 Try.call72 ⟨rfl, Try.ntmps72, Try.results72, by kernel_rfl⟩ rfl ?_
  repeat' (first | simp only [go_sem, ↓reduceIte, Nat.reduceEqDiff, Nat.reduceAdd, Nat.reduceMul, Nat.reduceSub, Nat.reduceLeDiff, Nat.reduceLT, Nat.reduceBEq, Nat.reduceBNe, Int.reduceLT, Int.reduceLE, Int.reduceEq, Int.reduceNeg, Int.reduceToNat, Int.toNat_natCast, Int.natCast_nonneg, List.length_append, List.length_map, List.length_replicate, Bool.and_eq_true, decide_eq_true_eq, List.length_take, List.length_drop, Int.reduceSub, Int.reduceAdd, Int.reduceMul, Int.sub_zero, Int.add_zero, Int.zero_add, reduceCtorEq, decide_true, decide_false, Bool.false_eq_true, List.reduceReplicate, *] | simp (disch := omega) only [wrap_i64, wrap_u8, Int.tdiv_eq_ediv_of_nonneg, Int.tmod_eq_emod_of_nonneg, if_pos] | (refine callP_0 (within_ac ..) (rfl) (rfl) ?_) | (refine callX_ac (within_ac ..) (rfl) (rfl) ?_) | refine callP_x ?_ | (refine ret_gen (by first | exact .inr rfl | exact .inl rfl) (rfl) ?_) | (refine guardP_split (fun _ => ?_) (fun _ => ?_)) | (refine condP_split (fun _ => ?_) (fun _ => ?_)) | (refine guardP_splitB (fun _ => ?_) (fun _ => ?_)) | (refine condP_splitB (fun _ => ?_) (fun _ => ?_)))
def hlen (h : HunkD) : Int := if (h.new.length : Int) > h.old.length then h.new.length else h.old.length
theorem length_ac (h : HunkD) (h1 : h.old.length ≤ 1048576) (h2 : h.new.length ≤ 1048576) : AC Try.prog 74 [hunkV h] (.int .i64 (hlen h)) := by
  simp only [hunkV_eq]
  refine AC.of_run mo Try.func74 Try.call74 ⟨rfl, Try.ntmps74, Try.results74, by kernel_rfl⟩ rfl ?_
  repeat' (first | simp only [go_sem, ↓reduceIte, Nat.reduceEqDiff, Nat.reduceAdd, Nat.reduceMul, Nat.reduceSub, Nat.reduceLeDiff, Nat.reduceLT, Nat.reduceBEq, Nat.reduceBNe, Int.reduceLT, Int.reduceLE, Int.reduceEq, Int.reduceNeg, Int.reduceToNat, Int.toNat_natCast, Int.natCast_nonneg, List.length_append, List.length_map, List.length_replicate, Bool.and_eq_true, decide_eq_true_eq, List.length_take, List.length_drop, Int.reduceSub, Int.reduceAdd, Int.reduceMul, Int.sub_zero, Int.add_zero, Int.zero_add, reduceCtorEq, decide_true, decide_false, Bool.false_eq_true, List.reduceReplicate, *] | simp (disch := omega) only [wrap_i64, wrap_u8, Int.tdiv_eq_ediv_of_nonneg, Int.tmod_eq_emod_of_nonneg, if_pos] | refine callP_x ?_ | (refine ret_gen (by first | exact .inr rfl | exact .inl rfl) (rfl) ?_) | (refine guardP_split (fun _ => ?_) (fun _ => ?_)) | (refine condP_split (fun _ => ?_) (fun _ => ?_)) | (refine guardP_splitB (fun _ => ?_) (fun _ => ?_)) | (refine condP_splitB (fun _ => ?_) (fun _ => ?_)))
  rfl
theorem l00Max_ac (a b : Int) : AC Try.prog 83 [.int .i64 a, .int .i64 b] (.int .i64 (if b > a then b else a)) := by
  refine AC.of_run mo Try.func83 Try.call83 ⟨rfl, Try.ntmps83, Try.results83, by kernel_rfl⟩ rfl ?_
  repeat' (first | simp only [go_sem, ↓reduceIte, Nat.reduceEqDiff, Nat.reduceAdd, Nat.reduceMul, Nat.reduceSub, Nat.reduceLeDiff, Nat.reduceLT, Nat.reduceBEq, Nat.reduceBNe, Int.reduceLT, Int.reduceLE, Int.reduceEq, Int.reduceNeg, Int.reduceToNat, Int.toNat_natCast, Int.natCast_nonneg, List.length_append, List.length_map, List.length_replicate, Bool.and_eq_true, decide_eq_true_eq, List.length_take, List.length_drop, Int.reduceSub, Int.reduceAdd, Int.reduceMul, Int.sub_zero, Int.add_zero, Int.zero_add, reduceCtorEq, decide_true, decide_false, Bool.false_eq_true, List.reduceReplicate, *] | simp (disch := omega) only [wrap_i64, wrap_u8, Int.tdiv_eq_ediv_of_nonneg, Int.tmod_eq_emod_of_nonneg, if_pos] | refine callP_x ?_ | (refine ret_gen (by first | exact .inr rfl | exact .inl rfl) (rfl) ?_) | (refine guardP_split (fun _ => ?_) (fun _ => ?_)) | (refine condP_split (fun _ => ?_) (fun _ => ?_)) | (refine guardP_splitB (fun _ => ?_) (fun _ => ?_)) | (refine condP_splitB (fun _ => ?_) (fun _ => ?_)))
  all_goals grind
theorem l00Min_ac (a b : Int) : AC Try.prog 102 [.int .i64 a, .int .i64 b] (.int .i64 (if b < a then b else a)) := by
  refine AC.of_run mo Try.func102 Try.call102 ⟨rfl, Try.ntmps102, Try.results102, by kernel_rfl⟩ rfl ?_
  repeat' (first | simp only [go_sem, ↓reduceIte, Nat.reduceEqDiff, Nat.reduceAdd, Nat.reduceMul, Nat.reduceSub, Nat.reduceLeDiff, Nat.reduceLT, Nat.reduceBEq, Nat.reduceBNe, Int.reduceLT, Int.reduceLE, Int.reduceEq, Int.reduceNeg, Int.reduceToNat, Int.toNat_natCast, Int.natCast_nonneg, List.length_append, List.length_map, List.length_replicate, Bool.and_eq_true, decide_eq_true_eq, List.length_take, List.length_drop, Int.reduceSub, Int.reduceAdd, Int.reduceMul, Int.sub_zero, Int.add_zero, Int.zero_add, reduceCtorEq, decide_true, decide_false, Bool.false_eq_true, List.reduceReplicate, *] | simp (disch := omega) only [wrap_i64, wrap_u8, Int.tdiv_eq_ediv_of_nonneg, Int.tmod_eq_emod_of_nonneg, if_pos] | refine callP_x ?_ | (refine ret_gen (by first | exact .inr rfl | exact .inl rfl) (rfl) ?_) | (refine guardP_split (fun _ => ?_) (fun _ => ?_)) | (refine condP_split (fun _ => ?_) (fun _ => ?_)) | (refine guardP_splitB (fun _ => ?_) (fun _ => ?_)) | (refine condP_splitB (fun _ => ?_) (fun _ => ?_)))
  all_goals grind
theorem hlen_in {h : HunkD} (h1 : h.old.length ≤ 1048576) (h2 : h.new.length ≤ 1048576) : 0 ≤ hlen h ∧ hlen h ≤ 1048576 := by unfold hlen; split <;> omega
/-- The hunk at an index. -/
def hk (p : PatchD) (j : Nat) : HunkD := p.hunks.getD j ⟨0, [], []⟩
theorem hk_get {p : PatchD} {j : Nat} (h : j < p.hunks.length) : hk p j = p.hunks[j] := by simp [hk, List.getD, List.getElem?_eq_getElem h]
theorem hk_map {p : PatchD} {j : Nat} (h : j < p.hunks.length) : (p.hunks.map hunkV)[j]? = some (hunkV (hk p j)) := by rw [hk_get h]; exact get_map h
theorem hk_mem {p : PatchD} {j : Nat} (h : j < p.hunks.length) {Q : HunkD → Prop} (hq : ∀ h ∈ p.hunks, Q h) : Q (hk p j) := by rw [hk_get h]; exact hq _ (List.getElem_mem h)
def goodAt (p : PatchD) (j : Nat) : Prop := hunkOk p (hk p j) ∧ (0 < j → (hk p (j - 1)).pos + hlen (hk p (j - 1)) < (hk p j).pos)
def goodTo (p : PatchD) (n : Nat) : Prop := ∀ j, j < n → goodAt p j
def tailTo (p : PatchD) (n : Nat) : Prop := p.src = p.dst ∨ ∃ j, j < n ∧ (hk p j).old.length ≠ (hk p j).new.length
def hdrOk (p : PatchD) : Prop := (0 ≤ p.src ∧ p.src ≤ 512) ∧ (0 ≤ p.dst ∧ p.dst ≤ 512) ∧ (0 ≤ p.sumFrom ∧ p.sumFrom ≤ 65535) ∧ (0 ≤ p.sumTo ∧ p.sumTo ≤ 65535) ∧ p.hunks.length ≤ 512
def patchOk (p : PatchD) : Prop := hdrOk p ∧ goodTo p p.hunks.length ∧ tailTo p p.hunks.length
instance (p : PatchD) : Decidable (patchOk p) := Classical.propDecidable _
instance (p : PatchD) (n : Nat) : Decidable (tailTo p n) := Classical.propDecidable _
theorem goodTo_succ {p : PatchD} {i : Nat} (h : goodTo p i) (hi : goodAt p i) : goodTo p (i + 1) := fun j hj => by
  by_cases e : j = i
  · subst e; exact hi
  · exact h j (by omega)
theorem tailTo_succ (p : PatchD) (i : Nat) : tailTo p (i + 1) ↔ tailTo p i ∨ (hk p i).old.length ≠ (hk p i).new.length := by
  constructor
  · rintro (h | ⟨j, hj, h⟩)
    · exact .inl (.inl h)
    · by_cases e : j = i
      · subst e; exact .inr h
      · exact .inl (.inr ⟨j, by omega, h⟩)
  · rintro ((h | ⟨j, hj, h⟩) | h)
    · exact .inl h
    · exact .inr ⟨j, by omega, h⟩
    · exact .inr ⟨i, by omega, h⟩
theorem not_good {p : PatchD} {i : Nat} (h : i < p.hunks.length) (hn : ¬ goodAt p i) : false = decide (patchOk p) := by
  symm; rw [decide_eq_false_iff_not]; exact fun hp => hn (hp.2.1 i h)
theorem tail_t {p : PatchD} {i : Nat} (h : tailTo p i) : AV.bool true = AV.bool (decide (tailTo p (i + 1))) := by
  rw [decide_eq_true ((tailTo_succ p i).2 (.inl h))]
theorem tail_f {p : PatchD} {i : Nat} (h : ¬ tailTo p i) : AV.bool (!decide (((hk p i).old.length : Int) = (hk p i).new.length)) = AV.bool (decide (tailTo p (i + 1))) := by
  congr 1
  rw [← decide_not, decide_eq_decide, tailTo_succ]
  constructor
  · intro h1; exact .inr (by omega)
  · rintro (h1 | h1)
    · exact absurd h1 h
    · omega
theorem iValidPatch_ac (p : PatchD) (hs : ∀ h ∈ p.hunks, h.old.length ≤ 1048576 ∧ h.new.length ≤ 1048576) : AC Try.prog 32 [patchV p] (.bool (decide (patchOk p))) := by
  simp only [patchV_eq]
  refine AC.of_run mo Try.func32 Try.call32 ⟨rfl, Try.ntmps32, Try.results32, by kernel_rfl⟩ rfl ?_
  repeat' (first | simp only [go_sem, ↓reduceIte, Nat.reduceEqDiff, Nat.reduceAdd, Nat.reduceMul, Nat.reduceSub, Nat.reduceLeDiff, Nat.reduceLT, Nat.reduceBEq, Nat.reduceBNe, Int.reduceLT, Int.reduceLE, Int.reduceEq, Int.reduceNeg, Int.reduceToNat, Int.toNat_natCast, Int.natCast_nonneg, List.length_append, List.length_map, List.length_replicate, Bool.and_eq_true, decide_eq_true_eq, List.length_take, List.length_drop, Int.reduceSub, Int.reduceAdd, Int.reduceMul, Int.sub_zero, Int.add_zero, Int.zero_add, reduceCtorEq, decide_true, decide_false, Bool.false_eq_true, List.reduceReplicate, *] | simp (disch := omega) only [wrap_i64, wrap_u8, Int.tdiv_eq_ediv_of_nonneg, Int.tmod_eq_emod_of_nonneg, if_pos] | (refine callP_0 (within_ac ..) (rfl) (rfl) ?_) | (refine callP_0 (isWord_ac ..) (rfl) (rfl) ?_) | (refine callX_ac (within_ac ..) (rfl) (rfl) ?_) | (refine callX_ac (isWord_ac ..) (rfl) (rfl) ?_) | refine callP_x ?_ | (refine ret_gen (by first | exact .inr rfl | exact .inl rfl) (rfl) ?_) | (refine guardP_split (fun _ => ?_) (fun _ => ?_)) | (refine condP_split (fun _ => ?_) (fun _ => ?_)) | (refine guardP_splitB (fun _ => ?_) (fun _ => ?_)) | (refine condP_splitB (fun _ => ?_) (fun _ => ?_)))
  rotate_left
  all_goals first
    | (symm; rw [decide_eq_false_iff_not]; rintro ⟨⟨_, _, _, _, _⟩, _⟩; omega)
    | skip
  have hb : p.hunks.length ≤ 512 := by omega
  have hh : hdrOk p := ⟨by assumption, by assumption, by assumption, by assumption, hb⟩
  refine sx_loop (fun m s => ∃ i, i ≤ p.hunks.length ∧ m = p.hunks.length - i ∧ s.τ 1 = .ptr 0 0 0 0 ∧ s.τ 3 = .bool (decide (tailTo p i)) ∧ s.τ 40 = .lst (p.hunks.map hunkV) ∧ s.τ 41 = .int .i64 p.hunks.length ∧ s.τ 42 = .int .i64 (i : Int) ∧ goodTo p i ∧ s.nx = 0 ∧
    s.H 0 = some ⟨5, [patchV p], 0, true⟩) p.hunks.length ⟨0, by omega, by omega, by simp [go_sem], by simp [go_sem, tailTo], by simp [go_sem], by simp [go_sem], by simp [go_sem], fun j hj => absurd hj (by omega), by simp [go_sem], by simp [go_sem, patchV_eq]⟩ ?_
  rintro m s ⟨i, hi, rfl, t1, t3, t40, t41, t42, hgd, hnx, hH0⟩
  simp only [patchV_eq] at hH0
  simp only [go_sem, ↓reduceIte, Nat.reduceEqDiff, Nat.reduceAdd, Nat.reduceMul, Nat.reduceSub, Nat.reduceLeDiff, Nat.reduceLT, Nat.reduceBEq, Nat.reduceBNe, Int.reduceLT, Int.reduceLE, Int.reduceEq, Int.reduceNeg, Int.reduceToNat, Int.toNat_natCast, Int.natCast_nonneg, List.length_append, List.length_map, List.length_replicate, Bool.and_eq_true, decide_eq_true_eq, List.length_take, List.length_drop, Int.reduceSub, Int.reduceAdd, Int.reduceMul, Int.sub_zero, Int.add_zero, Int.zero_add, reduceCtorEq, decide_true, decide_false, Bool.false_eq_true, List.reduceReplicate, t1, t3, t40, t41, t42, hnx, hH0]
  refine condP_split (fun hc => ?_) (fun hc => ?_)
  · have hlt : i < p.hunks.length := by omega
    have hg := hk_map hlt
    have hsz := hk_mem hlt hs
    have hv := validHunk_ac p (hk p i) hsz.1 hsz.2
    by_cases h0 : (0 : Int) < i
    · have hlt' : i - 1 < p.hunks.length := by omega
      have hsz' := hk_mem hlt' hs
      have hl := length_ac (hk p (i - 1)) hsz'.1 hsz'.2
      have hg' := hk_map hlt'
      have e1 : ((i : Int) - 1).toNat = i - 1 := by omega
      have e2 : 0 ≤ (i : Int) - 1 := by omega
      have e3 : (i : Int) - 1 < p.hunks.length := by omega
      have e5 := (hgd (i - 1) (by omega)).1.1
      have e6 := hlen_in hsz'.1 hsz'.2
      repeat' (first | simp only [go_sem, ↓reduceIte, Nat.reduceEqDiff, Nat.reduceAdd, Nat.reduceMul, Nat.reduceSub, Nat.reduceLeDiff, Nat.reduceLT, Nat.reduceBEq, Nat.reduceBNe, Int.reduceLT, Int.reduceLE, Int.reduceEq, Int.reduceNeg, Int.reduceToNat, Int.toNat_natCast, Int.natCast_nonneg, List.length_append, List.length_map, List.length_replicate, Bool.and_eq_true, decide_eq_true_eq, List.length_take, List.length_drop, Int.reduceSub, Int.reduceAdd, Int.reduceMul, Int.sub_zero, Int.add_zero, Int.zero_add, reduceCtorEq, decide_true, decide_false, Bool.false_eq_true, List.reduceReplicate, *] | simp (disch := omega) only [wrap_i64, wrap_u8, Int.tdiv_eq_ediv_of_nonneg, Int.tmod_eq_emod_of_nonneg, if_pos] | (refine callP_0 (hv ..) (rfl) (rfl) ?_) | (refine callP_0 (hl ..) (rfl) (rfl) ?_) | (refine callX_ac (hv ..) (rfl) (rfl) ?_) | (refine callX_ac (hl ..) (rfl) (rfl) ?_) | refine callP_x ?_ | (refine ret_gen (by first | exact .inr rfl | exact .inl rfl) (rfl) ?_) | (refine guardP_split (fun _ => ?_) (fun _ => ?_)) | (refine condP_split (fun _ => ?_) (fun _ => ?_)) | (refine guardP_splitB (fun _ => ?_) (fun _ => ?_)) | (refine condP_splitB (fun _ => ?_) (fun _ => ?_)))
      all_goals first
        | exact not_good hlt (fun hx => absurd hx.1 (by assumption))
        | exact not_good hlt (fun hx => by have := hx.2 (by omega); omega)
        | exact ⟨p.hunks.length - (i + 1), by omega, i + 1, by omega, rfl, tail_t (by assumption), by simp only [Int.natCast_add, Int.cast_ofNat_Int], goodTo_succ hgd ⟨by assumption, fun _ => by omega⟩, by simp only [patchV_eq]⟩
        | exact ⟨p.hunks.length - (i + 1), by omega, i + 1, by omega, rfl, tail_f (by assumption), by simp only [Int.natCast_add, Int.cast_ofNat_Int], goodTo_succ hgd ⟨by assumption, fun _ => by omega⟩, by simp only [patchV_eq]⟩
    · repeat' (first | simp only [go_sem, ↓reduceIte, Nat.reduceEqDiff, Nat.reduceAdd, Nat.reduceMul, Nat.reduceSub, Nat.reduceLeDiff, Nat.reduceLT, Nat.reduceBEq, Nat.reduceBNe, Int.reduceLT, Int.reduceLE, Int.reduceEq, Int.reduceNeg, Int.reduceToNat, Int.toNat_natCast, Int.natCast_nonneg, List.length_append, List.length_map, List.length_replicate, Bool.and_eq_true, decide_eq_true_eq, List.length_take, List.length_drop, Int.reduceSub, Int.reduceAdd, Int.reduceMul, Int.sub_zero, Int.add_zero, Int.zero_add, reduceCtorEq, decide_true, decide_false, Bool.false_eq_true, List.reduceReplicate, *] | simp (disch := omega) only [wrap_i64, wrap_u8, Int.tdiv_eq_ediv_of_nonneg, Int.tmod_eq_emod_of_nonneg, if_pos] | (refine callP_0 (hv ..) (rfl) (rfl) ?_) | (refine callX_ac (hv ..) (rfl) (rfl) ?_) | refine callP_x ?_ | (refine ret_gen (by first | exact .inr rfl | exact .inl rfl) (rfl) ?_) | (refine guardP_split (fun _ => ?_) (fun _ => ?_)) | (refine condP_split (fun _ => ?_) (fun _ => ?_)) | (refine guardP_splitB (fun _ => ?_) (fun _ => ?_)) | (refine condP_splitB (fun _ => ?_) (fun _ => ?_)))
      all_goals first
        | exact not_good hlt (fun hx => absurd hx.1 (by assumption))
        | exact not_good hlt (fun hx => by have := hx.2 (by omega); omega)
        | exact ⟨p.hunks.length - (i + 1), by omega, i + 1, by omega, rfl, tail_t (by assumption), by simp only [Int.natCast_add, Int.cast_ofNat_Int], goodTo_succ hgd ⟨by assumption, fun _ => by omega⟩, by simp only [patchV_eq]⟩
        | exact ⟨p.hunks.length - (i + 1), by omega, i + 1, by omega, rfl, tail_f (by assumption), by simp only [Int.natCast_add, Int.cast_ofNat_Int], goodTo_succ hgd ⟨by assumption, fun _ => by omega⟩, by simp only [patchV_eq]⟩
  · have e : i = p.hunks.length := by omega
    subst e
    repeat' (first | simp only [go_sem, ↓reduceIte, Nat.reduceEqDiff, Nat.reduceAdd, Nat.reduceMul, Nat.reduceSub, Nat.reduceLeDiff, Nat.reduceLT, Nat.reduceBEq, Nat.reduceBNe, Int.reduceLT, Int.reduceLE, Int.reduceEq, Int.reduceNeg, Int.reduceToNat, Int.toNat_natCast, Int.natCast_nonneg, List.length_append, List.length_map, List.length_replicate, Bool.and_eq_true, decide_eq_true_eq, List.length_take, List.length_drop, Int.reduceSub, Int.reduceAdd, Int.reduceMul, Int.sub_zero, Int.add_zero, Int.zero_add, reduceCtorEq, decide_true, decide_false, Bool.false_eq_true, List.reduceReplicate, *] | simp (disch := omega) only [wrap_i64, wrap_u8, Int.tdiv_eq_ediv_of_nonneg, Int.tmod_eq_emod_of_nonneg, if_pos] | refine callP_x ?_ | (refine ret_gen (by first | exact .inr rfl | exact .inl rfl) (rfl) ?_) | (refine guardP_split (fun _ => ?_) (fun _ => ?_)) | (refine condP_split (fun _ => ?_) (fun _ => ?_)) | (refine guardP_splitB (fun _ => ?_) (fun _ => ?_)) | (refine condP_splitB (fun _ => ?_) (fun _ => ?_)))
    rw [decide_eq_decide]
    exact ⟨fun h => ⟨hh, hgd, h⟩, fun h => h.2.2⟩
theorem l29Hunk_ac (p : PatchD) (h : HunkD) (h1 : h.old.length ≤ 1048576) (h2 : h.new.length ≤ 1048576) (hp : p.src ≤ 512 ∧ p.dst ≤ 512) : AC Try.prog 82 [.dptr [.int .i64 p.src, .int .i64 p.dst, .int .i64 p.sumFrom, .int .i64 p.sumTo, .lst (p.hunks.map hunkV)], .dptr [.int .i64 h.pos, .str h.old, .str h.new]] (.bool (decide (hunkOk p h))) := by
  refine AC.of_run mo Try.func82 Try.call82 ⟨rfl, Try.ntmps82, Try.results82, by kernel_rfl⟩ rfl ?_
  repeat' (first | simp only [go_sem, ↓reduceIte, Nat.reduceEqDiff, Nat.reduceAdd, Nat.reduceMul, Nat.reduceSub, Nat.reduceLeDiff, Nat.reduceLT, Nat.reduceBEq, Nat.reduceBNe, Int.reduceLT, Int.reduceLE, Int.reduceEq, Int.reduceNeg, Int.reduceToNat, Int.toNat_natCast, Int.natCast_nonneg, List.length_append, List.length_map, List.length_replicate, Bool.and_eq_true, decide_eq_true_eq, List.length_take, List.length_drop, Int.reduceSub, Int.reduceAdd, Int.reduceMul, Int.sub_zero, Int.add_zero, Int.zero_add, reduceCtorEq, decide_true, decide_false, Bool.false_eq_true, List.reduceReplicate, *] | simp (disch := omega) only [wrap_i64, wrap_u8, Int.tdiv_eq_ediv_of_nonneg, Int.tmod_eq_emod_of_nonneg, if_pos] | (refine callP_0 (l00In_ac ..) (rfl) (rfl) ?_) | (refine callX_ac (l00In_ac ..) (rfl) (rfl) ?_) | refine callP_x ?_ | (refine ret_gen (by first | exact .inr rfl | exact .inl rfl) (rfl) ?_) | (refine guardP_split (fun _ => ?_) (fun _ => ?_)) | (refine condP_split (fun _ => ?_) (fun _ => ?_)) | (refine guardP_splitB (fun _ => ?_) (fun _ => ?_)) | (refine condP_splitB (fun _ => ?_) (fun _ => ?_)))
  rotate_left
  all_goals first
    | (symm; rw [decide_eq_false_iff_not]; rintro ⟨⟨_, _⟩, _, _, _, _, _⟩; omega)
    | skip
  all_goals (
      have hmn : (if (h.new.length : Int) < h.old.length then (h.new.length : Int) else h.old.length) = ((min h.old.length h.new.length : Nat) : Int) := by split <;> omega
      have hlm := l00Min_ac h.old.length h.new.length
      rw [hmn] at hlm
      refine sx_loop (fun m s => ∃ i, i ≤ min h.old.length h.new.length ∧ m = min h.old.length h.new.length - i ∧ s.τ 0 = .dptr [.int .i64 p.src, .int .i64 p.dst, .int .i64 p.sumFrom, .int .i64 p.sumTo, .lst (p.hunks.map hunkV)] ∧ s.τ 1 = .dptr [.int .i64 h.pos, .str h.old, .str h.new] ∧ s.τ 5 = .int .i64 h.old.length ∧ s.τ 6 = .int .i64 h.new.length ∧ s.τ 7 = .int .i64 (i : Int) ∧ apart h i) (min h.old.length h.new.length) ⟨0, by simp [go_sem, apart, *]⟩ ?_
      have k1 : ¬ (h.old.length = 0 ∧ h.new.length = 0) := by omega
      have k2 : h.pos + h.old.length ≤ p.src := by omega
      have k3 : h.pos + h.new.length ≤ p.dst := by omega
      have k4 : (h.old.length : Int) = 0 ∨ h.pos = h.pos := .inr rfl
      first
        | (rename_i q _ _ _; have q' : (h.old.length : Int) = 0 := q; clear q' q)
        | skip
      rintro m s ⟨i, hi, rfl, t0, t1, t5, t6, t7, ha⟩
      clear hmn
      simp only [go_sem, ↓reduceIte, Nat.reduceEqDiff, Nat.reduceAdd, Nat.reduceMul, Nat.reduceSub, Nat.reduceLeDiff, Nat.reduceLT, Nat.reduceBEq, Nat.reduceBNe, Int.reduceLT, Int.reduceLE, Int.reduceEq, Int.reduceNeg, Int.reduceToNat, Int.toNat_natCast, Int.natCast_nonneg, List.length_append, List.length_map, List.length_replicate, Bool.and_eq_true, decide_eq_true_eq, List.length_take, List.length_drop, Int.reduceSub, Int.reduceAdd, Int.reduceMul, Int.sub_zero, Int.add_zero, Int.zero_add, reduceCtorEq, decide_true, decide_false, Bool.false_eq_true, List.reduceReplicate, t0, t1, t5, t6, t7]
      refine callP_0 hlm (rfl) (rfl) ?_
      simp only [go_sem, ↓reduceIte, Nat.reduceEqDiff, Nat.reduceAdd, Nat.reduceMul, Nat.reduceSub, Nat.reduceLeDiff, Nat.reduceLT, Nat.reduceBEq, Nat.reduceBNe, Int.reduceLT, Int.reduceLE, Int.reduceEq, Int.reduceNeg, Int.reduceToNat, Int.toNat_natCast, Int.natCast_nonneg, List.length_append, List.length_map, List.length_replicate, Bool.and_eq_true, decide_eq_true_eq, List.length_take, List.length_drop, Int.reduceSub, Int.reduceAdd, Int.reduceMul, Int.sub_zero, Int.add_zero, Int.zero_add, reduceCtorEq, decide_true, decide_false, Bool.false_eq_true, List.reduceReplicate]
      refine condP_split (fun hc => ?_) (fun hc => ?_)
      · have ho : i < h.old.length := by omega
        have hn : i < h.new.length := by omega
        have go := List.getElem?_eq_getElem ho
        have gn := List.getElem?_eq_getElem hn
        repeat' (first | simp only [go_sem, ↓reduceIte, Nat.reduceEqDiff, Nat.reduceAdd, Nat.reduceMul, Nat.reduceSub, Nat.reduceLeDiff, Nat.reduceLT, Nat.reduceBEq, Nat.reduceBNe, Int.reduceLT, Int.reduceLE, Int.reduceEq, Int.reduceNeg, Int.reduceToNat, Int.toNat_natCast, Int.natCast_nonneg, List.length_append, List.length_map, List.length_replicate, Bool.and_eq_true, decide_eq_true_eq, List.length_take, List.length_drop, Int.reduceSub, Int.reduceAdd, Int.reduceMul, Int.sub_zero, Int.add_zero, Int.zero_add, reduceCtorEq, decide_true, decide_false, Bool.false_eq_true, List.reduceReplicate, *] | simp (disch := omega) only [wrap_i64, wrap_u8, Int.tdiv_eq_ediv_of_nonneg, Int.tmod_eq_emod_of_nonneg, if_pos] | refine callP_x ?_ | (refine ret_gen (by first | exact .inr rfl | exact .inl rfl) (rfl) ?_) | (refine guardP_split (fun _ => ?_) (fun _ => ?_)) | (refine condP_split (fun _ => ?_) (fun _ => ?_)) | (refine guardP_splitB (fun _ => ?_) (fun _ => ?_)) | (refine condP_splitB (fun _ => ?_) (fun _ => ?_)))
        all_goals first
          | (symm; rw [decide_eq_false_iff_not]; rintro ⟨_, _, _, _, hx, _⟩; exact apart_not ho hn (by omega) (by assumption) hx)
          | (refine ⟨min h.old.length h.new.length - (i + 1), by omega, i + 1, by omega, rfl, by simp only [Int.natCast_add, Int.cast_ofNat_Int], apart_succ ho hn ha (by assumption)⟩)
      · have e : i = min h.old.length h.new.length := by omega
        subst e
        repeat' (first | simp only [go_sem, ↓reduceIte, Nat.reduceEqDiff, Nat.reduceAdd, Nat.reduceMul, Nat.reduceSub, Nat.reduceLeDiff, Nat.reduceLT, Nat.reduceBEq, Nat.reduceBNe, Int.reduceLT, Int.reduceLE, Int.reduceEq, Int.reduceNeg, Int.reduceToNat, Int.toNat_natCast, Int.natCast_nonneg, List.length_append, List.length_map, List.length_replicate, Bool.and_eq_true, decide_eq_true_eq, List.length_take, List.length_drop, Int.reduceSub, Int.reduceAdd, Int.reduceMul, Int.sub_zero, Int.add_zero, Int.zero_add, reduceCtorEq, decide_true, decide_false, Bool.false_eq_true, List.reduceReplicate, *] | simp (disch := omega) only [wrap_i64, wrap_u8, Int.tdiv_eq_ediv_of_nonneg, Int.tmod_eq_emod_of_nonneg, if_pos] | refine callP_x ?_ | (refine ret_gen (by first | exact .inr rfl | exact .inl rfl) (rfl) ?_) | (refine guardP_split (fun _ => ?_) (fun _ => ?_)) | (refine condP_split (fun _ => ?_) (fun _ => ?_)) | (refine guardP_splitB (fun _ => ?_) (fun _ => ?_)) | (refine condP_splitB (fun _ => ?_) (fun _ => ?_)))
        all_goals first
          | (symm; rw [decide_eq_true_iff]; exact ⟨by omega, by omega, by omega, by omega, ha, by omega⟩)
          | (symm; rw [decide_eq_false_iff_not]; rintro ⟨_, _, _, _, _, _⟩; omega)
          | (rw [decide_eq_decide]; exact ⟨fun _ => ⟨by omega, by omega, by omega, by omega, ha, by omega⟩, fun ⟨_, _, _, _, _, _⟩ => by omega⟩))
def endAt (p : PatchD) (i : Nat) : Int := if i = 0 then -1 else (hk p (i - 1)).pos + hlen (hk p (i - 1))
theorem goodAt_end {p : PatchD} {i : Nat} : goodAt p i ↔ hunkOk p (hk p i) ∧ endAt p i < (hk p i).pos := by
  unfold goodAt endAt
  by_cases h : i = 0
  · subst h
    simp only [Nat.lt_irrefl, false_implies, and_true, if_true]
    exact ⟨fun h => ⟨h, by have := h.1.1; omega⟩, fun h => h.1⟩
  · rw [if_neg h]
    exact ⟨fun ⟨h1, h2⟩ => ⟨h1, h2 (by omega)⟩, fun ⟨h1, h2⟩ => ⟨h1, fun _ => h2⟩⟩
theorem l29Ok_ac (p : PatchD) (hs : ∀ h ∈ p.hunks, h.old.length ≤ 1048576 ∧ h.new.length ≤ 1048576) : AC Try.prog 44 [.dptr [.int .i64 p.src, .int .i64 p.dst, .int .i64 p.sumFrom, .int .i64 p.sumTo, .lst (p.hunks.map hunkV)]] (.bool (decide (patchOk p))) := by
  refine AC.of_run mo Try.func44 Try.call44 ⟨rfl, Try.ntmps44, Try.results44, by kernel_rfl⟩ rfl ?_
  repeat' (first | simp only [go_sem, ↓reduceIte, Nat.reduceEqDiff, Nat.reduceAdd, Nat.reduceMul, Nat.reduceSub, Nat.reduceLeDiff, Nat.reduceLT, Nat.reduceBEq, Nat.reduceBNe, Int.reduceLT, Int.reduceLE, Int.reduceEq, Int.reduceNeg, Int.reduceToNat, Int.toNat_natCast, Int.natCast_nonneg, List.length_append, List.length_map, List.length_replicate, Bool.and_eq_true, decide_eq_true_eq, List.length_take, List.length_drop, Int.reduceSub, Int.reduceAdd, Int.reduceMul, Int.sub_zero, Int.add_zero, Int.zero_add, reduceCtorEq, decide_true, decide_false, Bool.false_eq_true, List.reduceReplicate, *] | simp (disch := omega) only [wrap_i64, wrap_u8, Int.tdiv_eq_ediv_of_nonneg, Int.tmod_eq_emod_of_nonneg, if_pos] | (refine callP_0 (l00In_ac ..) (rfl) (rfl) ?_) | (refine callX_ac (l00In_ac ..) (rfl) (rfl) ?_) | refine callP_x ?_ | (refine ret_gen (by first | exact .inr rfl | exact .inl rfl) (rfl) ?_) | (refine guardP_split (fun _ => ?_) (fun _ => ?_)) | (refine condP_split (fun _ => ?_) (fun _ => ?_)) | (refine guardP_splitB (fun _ => ?_) (fun _ => ?_)) | (refine condP_splitB (fun _ => ?_) (fun _ => ?_)))
  rotate_left
  all_goals first
    | (symm; rw [decide_eq_false_iff_not]; rintro ⟨⟨_, _, _, _, _⟩, _⟩; omega)
    | skip
  have hb : p.hunks.length ≤ 512 := by omega
  have hh : hdrOk p := ⟨by assumption, by assumption, by assumption, by assumption, hb⟩
  refine sx_loop (fun m s => ∃ i, i ≤ p.hunks.length ∧ m = p.hunks.length - i ∧ s.τ 0 = .dptr [.int .i64 p.src, .int .i64 p.dst, .int .i64 p.sumFrom, .int .i64 p.sumTo, .lst (p.hunks.map hunkV)] ∧ s.τ 3 = .bool (decide (tailTo p i)) ∧ s.τ 4 = .int .i64 (endAt p i) ∧ s.τ 5 = .int .i64 (i : Int) ∧ goodTo p i) p.hunks.length ⟨0, by omega, by omega, by simp [go_sem], by simp [go_sem, tailTo], by simp [go_sem, endAt], by simp [go_sem], fun j hj => absurd hj (by omega)⟩ ?_
  rintro m s ⟨i, hi, rfl, t0, t3, t4, t5, hgd⟩
  simp only [go_sem, ↓reduceIte, Nat.reduceEqDiff, Nat.reduceAdd, Nat.reduceMul, Nat.reduceSub, Nat.reduceLeDiff, Nat.reduceLT, Nat.reduceBEq, Nat.reduceBNe, Int.reduceLT, Int.reduceLE, Int.reduceEq, Int.reduceNeg, Int.reduceToNat, Int.toNat_natCast, Int.natCast_nonneg, List.length_append, List.length_map, List.length_replicate, Bool.and_eq_true, decide_eq_true_eq, List.length_take, List.length_drop, Int.reduceSub, Int.reduceAdd, Int.reduceMul, Int.sub_zero, Int.add_zero, Int.zero_add, reduceCtorEq, decide_true, decide_false, Bool.false_eq_true, List.reduceReplicate, t0, t3, t4, t5]
  refine condP_split (fun hc => ?_) (fun hc => ?_)
  · have hlt : i < p.hunks.length := by omega
    have hg := hk_map hlt
    have hsz := hk_mem hlt hs
    have hv := l29Hunk_ac p (hk p i) hsz.1 hsz.2 ⟨hh.1.2, hh.2.1.2⟩
    have hl := l00Max_ac (hk p i).old.length (hk p i).new.length
    have hl2 := hlen_in hsz.1 hsz.2
    rw [show (if ((hk p i).new.length : Int) > (hk p i).old.length then ((hk p i).new.length : Int) else (hk p i).old.length) = hlen (hk p i) from rfl] at hl
    have he : endAt p (i + 1) = (hk p i).pos + hlen (hk p i) := by unfold endAt; rw [if_neg (by omega)]; rfl
    by_cases hok : hunkOk p (hk p i)
    · have hpos := hok.1
      repeat' (first | simp only [go_sem, ↓reduceIte, Nat.reduceEqDiff, Nat.reduceAdd, Nat.reduceMul, Nat.reduceSub, Nat.reduceLeDiff, Nat.reduceLT, Nat.reduceBEq, Nat.reduceBNe, Int.reduceLT, Int.reduceLE, Int.reduceEq, Int.reduceNeg, Int.reduceToNat, Int.toNat_natCast, Int.natCast_nonneg, List.length_append, List.length_map, List.length_replicate, Bool.and_eq_true, decide_eq_true_eq, List.length_take, List.length_drop, Int.reduceSub, Int.reduceAdd, Int.reduceMul, Int.sub_zero, Int.add_zero, Int.zero_add, reduceCtorEq, decide_true, decide_false, Bool.false_eq_true, List.reduceReplicate, *] | simp (disch := omega) only [wrap_i64, wrap_u8, Int.tdiv_eq_ediv_of_nonneg, Int.tmod_eq_emod_of_nonneg, if_pos] | (refine callP_0 (hv ..) (rfl) (rfl) ?_) | (refine callP_0 (hl ..) (rfl) (rfl) ?_) | (refine callX_ac (hv ..) (rfl) (rfl) ?_) | (refine callX_ac (hl ..) (rfl) (rfl) ?_) | refine callP_x ?_ | (refine ret_gen (by first | exact .inr rfl | exact .inl rfl) (rfl) ?_) | (refine guardP_split (fun _ => ?_) (fun _ => ?_)) | (refine condP_split (fun _ => ?_) (fun _ => ?_)) | (refine guardP_splitB (fun _ => ?_) (fun _ => ?_)) | (refine condP_splitB (fun _ => ?_) (fun _ => ?_)))
      all_goals first
        | exact not_good hlt (fun hx => by have := (goodAt_end.1 hx).2; omega)
        | exact ⟨p.hunks.length - (i + 1), by omega, i + 1, by omega, rfl, tail_t (by assumption), by rw [he], by simp only [Int.natCast_add, Int.cast_ofNat_Int], goodTo_succ hgd (goodAt_end.2 ⟨hok, by omega⟩)⟩
        | exact ⟨p.hunks.length - (i + 1), by omega, i + 1, by omega, rfl, tail_f (by assumption), by rw [he], by simp only [Int.natCast_add, Int.cast_ofNat_Int], goodTo_succ hgd (goodAt_end.2 ⟨hok, by omega⟩)⟩
    · repeat' (first | simp only [go_sem, ↓reduceIte, Nat.reduceEqDiff, Nat.reduceAdd, Nat.reduceMul, Nat.reduceSub, Nat.reduceLeDiff, Nat.reduceLT, Nat.reduceBEq, Nat.reduceBNe, Int.reduceLT, Int.reduceLE, Int.reduceEq, Int.reduceNeg, Int.reduceToNat, Int.toNat_natCast, Int.natCast_nonneg, List.length_append, List.length_map, List.length_replicate, Bool.and_eq_true, decide_eq_true_eq, List.length_take, List.length_drop, Int.reduceSub, Int.reduceAdd, Int.reduceMul, Int.sub_zero, Int.add_zero, Int.zero_add, reduceCtorEq, decide_true, decide_false, Bool.false_eq_true, List.reduceReplicate, *] | simp (disch := omega) only [wrap_i64, wrap_u8, Int.tdiv_eq_ediv_of_nonneg, Int.tmod_eq_emod_of_nonneg, if_pos] | (refine callP_0 (hv ..) (rfl) (rfl) ?_) | (refine callP_0 (hl ..) (rfl) (rfl) ?_) | (refine callX_ac (hv ..) (rfl) (rfl) ?_) | (refine callX_ac (hl ..) (rfl) (rfl) ?_) | refine callP_x ?_ | (refine ret_gen (by first | exact .inr rfl | exact .inl rfl) (rfl) ?_) | (refine guardP_split (fun _ => ?_) (fun _ => ?_)) | (refine condP_split (fun _ => ?_) (fun _ => ?_)) | (refine guardP_splitB (fun _ => ?_) (fun _ => ?_)) | (refine condP_splitB (fun _ => ?_) (fun _ => ?_)))
      exact not_good hlt (fun hx => hok hx.1)
  · have e : i = p.hunks.length := by omega
    subst e
    repeat' (first | simp only [go_sem, ↓reduceIte, Nat.reduceEqDiff, Nat.reduceAdd, Nat.reduceMul, Nat.reduceSub, Nat.reduceLeDiff, Nat.reduceLT, Nat.reduceBEq, Nat.reduceBNe, Int.reduceLT, Int.reduceLE, Int.reduceEq, Int.reduceNeg, Int.reduceToNat, Int.toNat_natCast, Int.natCast_nonneg, List.length_append, List.length_map, List.length_replicate, Bool.and_eq_true, decide_eq_true_eq, List.length_take, List.length_drop, Int.reduceSub, Int.reduceAdd, Int.reduceMul, Int.sub_zero, Int.add_zero, Int.zero_add, reduceCtorEq, decide_true, decide_false, Bool.false_eq_true, List.reduceReplicate, *] | simp (disch := omega) only [wrap_i64, wrap_u8, Int.tdiv_eq_ediv_of_nonneg, Int.tmod_eq_emod_of_nonneg, if_pos] | refine callP_x ?_ | (refine ret_gen (by first | exact .inr rfl | exact .inl rfl) (rfl) ?_) | (refine guardP_split (fun _ => ?_) (fun _ => ?_)) | (refine condP_split (fun _ => ?_) (fun _ => ?_)) | (refine guardP_splitB (fun _ => ?_) (fun _ => ?_)) | (refine condP_splitB (fun _ => ?_) (fun _ => ?_)))
    rw [decide_eq_decide]
    exact ⟨fun h => ⟨hh, hgd, h⟩, fun h => h.2.2⟩
def distTo (p : PatchD) : Nat → Int
  | 0 => 0
  | n + 1 => distTo p n + hlen (hk p n)
theorem distTo_in {p : PatchD} (hs : ∀ h ∈ p.hunks, h.old.length ≤ 1048576 ∧ h.new.length ≤ 1048576) : ∀ n, n ≤ p.hunks.length → 0 ≤ distTo p n ∧ distTo p n ≤ 1048576 * n
  | 0, _ => by simp [distTo]
  | n + 1, h => by
    have h1 := distTo_in hs n (by omega)
    have hsz := hk_mem (show n < p.hunks.length by omega) hs
    have h2 := hlen_in hsz.1 hsz.2
    simp only [distTo, Int.natCast_add]
    omega
def distP (p : PatchD) : Int := if patchOk p then distTo p p.hunks.length else -1
theorem iPatchDistance_ac (p : PatchD) (hs : ∀ h ∈ p.hunks, h.old.length ≤ 1048576 ∧ h.new.length ≤ 1048576) : AC Try.prog 33 [patchV p] (.int .i64 (distP p)) := by
  have hv := iValidPatch_ac p hs
  have hrw := patchV_eq p
  by_cases hok : patchOk p
  · rw [distP, if_pos hok]
    rw [decide_eq_true hok] at hv
    have hb : p.hunks.length ≤ 512 := hok.1.2.2.2.2
    simp only [patchV_eq] at hv ⊢
    refine AC.of_run mo Try.func33 Try.call33 ⟨rfl, Try.ntmps33, Try.results33, by kernel_rfl⟩ rfl ?_
    repeat' (first | simp only [go_sem, ↓reduceIte, Nat.reduceEqDiff, Nat.reduceAdd, Nat.reduceMul, Nat.reduceSub, Nat.reduceLeDiff, Nat.reduceLT, Nat.reduceBEq, Nat.reduceBNe, Int.reduceLT, Int.reduceLE, Int.reduceEq, Int.reduceNeg, Int.reduceToNat, Int.toNat_natCast, Int.natCast_nonneg, List.length_append, List.length_map, List.length_replicate, Bool.and_eq_true, decide_eq_true_eq, List.length_take, List.length_drop, Int.reduceSub, Int.reduceAdd, Int.reduceMul, Int.sub_zero, Int.add_zero, Int.zero_add, reduceCtorEq, decide_true, decide_false, Bool.false_eq_true, List.reduceReplicate, *] | simp (disch := omega) only [wrap_i64, wrap_u8, Int.tdiv_eq_ediv_of_nonneg, Int.tmod_eq_emod_of_nonneg, if_pos] | (refine callP_0 (hv ..) (rfl) (rfl) ?_) | (refine callX_ac (hv ..) (rfl) (rfl) ?_) | refine callP_x ?_ | (refine ret_gen (by first | exact .inr rfl | exact .inl rfl) (rfl) ?_) | (refine guardP_split (fun _ => ?_) (fun _ => ?_)) | (refine condP_split (fun _ => ?_) (fun _ => ?_)) | (refine guardP_splitB (fun _ => ?_) (fun _ => ?_)) | (refine condP_splitB (fun _ => ?_) (fun _ => ?_)))
    refine sx_loop (fun m s => ∃ i, i ≤ p.hunks.length ∧ m = p.hunks.length - i ∧ s.τ 3 = .int .i64 (distTo p i) ∧ s.τ 10 = .lst (p.hunks.map hunkV) ∧ s.τ 11 = .int .i64 p.hunks.length ∧ s.τ 12 = .int .i64 (i : Int)) p.hunks.length ⟨0, by simp [go_sem, distTo]⟩ ?_
    rintro m s ⟨i, hi, rfl, t3, t10, t11, t12⟩
    simp only [go_sem, ↓reduceIte, Nat.reduceEqDiff, Nat.reduceAdd, Nat.reduceMul, Nat.reduceSub, Nat.reduceLeDiff, Nat.reduceLT, Nat.reduceBEq, Nat.reduceBNe, Int.reduceLT, Int.reduceLE, Int.reduceEq, Int.reduceNeg, Int.reduceToNat, Int.toNat_natCast, Int.natCast_nonneg, List.length_append, List.length_map, List.length_replicate, Bool.and_eq_true, decide_eq_true_eq, List.length_take, List.length_drop, Int.reduceSub, Int.reduceAdd, Int.reduceMul, Int.sub_zero, Int.add_zero, Int.zero_add, reduceCtorEq, decide_true, decide_false, Bool.false_eq_true, List.reduceReplicate, t3, t10, t11, t12]
    refine condP_split (fun hc => ?_) (fun hc => ?_)
    · have hlt : i < p.hunks.length := by omega
      have hg := hk_map hlt
      have hsz := hk_mem hlt hs
      have hl := length_ac (hk p i) hsz.1 hsz.2
      have h1 := distTo_in hs i (by omega)
      have h2 := hlen_in hsz.1 hsz.2
      repeat' (first | simp only [go_sem, ↓reduceIte, Nat.reduceEqDiff, Nat.reduceAdd, Nat.reduceMul, Nat.reduceSub, Nat.reduceLeDiff, Nat.reduceLT, Nat.reduceBEq, Nat.reduceBNe, Int.reduceLT, Int.reduceLE, Int.reduceEq, Int.reduceNeg, Int.reduceToNat, Int.toNat_natCast, Int.natCast_nonneg, List.length_append, List.length_map, List.length_replicate, Bool.and_eq_true, decide_eq_true_eq, List.length_take, List.length_drop, Int.reduceSub, Int.reduceAdd, Int.reduceMul, Int.sub_zero, Int.add_zero, Int.zero_add, reduceCtorEq, decide_true, decide_false, Bool.false_eq_true, List.reduceReplicate, *] | simp (disch := omega) only [wrap_i64, wrap_u8, Int.tdiv_eq_ediv_of_nonneg, Int.tmod_eq_emod_of_nonneg, if_pos] | (refine callP_0 (hl ..) (rfl) (rfl) ?_) | (refine callX_ac (hl ..) (rfl) (rfl) ?_) | refine callP_x ?_ | (refine ret_gen (by first | exact .inr rfl | exact .inl rfl) (rfl) ?_) | (refine guardP_split (fun _ => ?_) (fun _ => ?_)) | (refine condP_split (fun _ => ?_) (fun _ => ?_)) | (refine guardP_splitB (fun _ => ?_) (fun _ => ?_)) | (refine condP_splitB (fun _ => ?_) (fun _ => ?_)))
      exact ⟨p.hunks.length - (i + 1), by omega, i + 1, by omega, rfl, rfl, by simp only [Int.natCast_add, Int.cast_ofNat_Int]⟩
    · have e : i = p.hunks.length := by omega
      subst e
      repeat' (first | simp only [go_sem, ↓reduceIte, Nat.reduceEqDiff, Nat.reduceAdd, Nat.reduceMul, Nat.reduceSub, Nat.reduceLeDiff, Nat.reduceLT, Nat.reduceBEq, Nat.reduceBNe, Int.reduceLT, Int.reduceLE, Int.reduceEq, Int.reduceNeg, Int.reduceToNat, Int.toNat_natCast, Int.natCast_nonneg, List.length_append, List.length_map, List.length_replicate, Bool.and_eq_true, decide_eq_true_eq, List.length_take, List.length_drop, Int.reduceSub, Int.reduceAdd, Int.reduceMul, Int.sub_zero, Int.add_zero, Int.zero_add, reduceCtorEq, decide_true, decide_false, Bool.false_eq_true, List.reduceReplicate, *] | simp (disch := omega) only [wrap_i64, wrap_u8, Int.tdiv_eq_ediv_of_nonneg, Int.tmod_eq_emod_of_nonneg, if_pos] | refine callP_x ?_ | (refine ret_gen (by first | exact .inr rfl | exact .inl rfl) (rfl) ?_) | (refine guardP_split (fun _ => ?_) (fun _ => ?_)) | (refine condP_split (fun _ => ?_) (fun _ => ?_)) | (refine guardP_splitB (fun _ => ?_) (fun _ => ?_)) | (refine condP_splitB (fun _ => ?_) (fun _ => ?_)))
  · rw [distP, if_neg hok]
    rw [decide_eq_false hok] at hv
    simp only [patchV_eq] at hv ⊢
    refine AC.of_run mo Try.func33 Try.call33 ⟨rfl, Try.ntmps33, Try.results33, by kernel_rfl⟩ rfl ?_
    repeat' (first | simp only [go_sem, ↓reduceIte, Nat.reduceEqDiff, Nat.reduceAdd, Nat.reduceMul, Nat.reduceSub, Nat.reduceLeDiff, Nat.reduceLT, Nat.reduceBEq, Nat.reduceBNe, Int.reduceLT, Int.reduceLE, Int.reduceEq, Int.reduceNeg, Int.reduceToNat, Int.toNat_natCast, Int.natCast_nonneg, List.length_append, List.length_map, List.length_replicate, Bool.and_eq_true, decide_eq_true_eq, List.length_take, List.length_drop, Int.reduceSub, Int.reduceAdd, Int.reduceMul, Int.sub_zero, Int.add_zero, Int.zero_add, reduceCtorEq, decide_true, decide_false, Bool.false_eq_true, List.reduceReplicate, *] | simp (disch := omega) only [wrap_i64, wrap_u8, Int.tdiv_eq_ediv_of_nonneg, Int.tmod_eq_emod_of_nonneg, if_pos] | (refine callP_0 (hv ..) (rfl) (rfl) ?_) | (refine callX_ac (hv ..) (rfl) (rfl) ?_) | refine callP_x ?_ | (refine ret_gen (by first | exact .inr rfl | exact .inl rfl) (rfl) ?_) | (refine guardP_split (fun _ => ?_) (fun _ => ?_)) | (refine condP_split (fun _ => ?_) (fun _ => ?_)) | (refine guardP_splitB (fun _ => ?_) (fun _ => ?_)) | (refine condP_splitB (fun _ => ?_) (fun _ => ?_)))
theorem patch_small {p : PatchD} (h : (costPatch p : Int) ≤ 1048576) : p.hunks.length ≤ 1048576 ∧ ∀ x ∈ p.hunks, x.old.length ≤ 1048576 ∧ x.new.length ≤ 1048576 := by
  unfold costPatch at h
  refine ⟨by omega, fun x hx => ?_⟩
  have h1 := csum_mem costHunk hx
  have h2 : costHunk x = x.old.length + x.new.length := rfl
  omega
end
end Go.Ab
