/- The periods of strings. Conditions: none. -/
import Derived.Test.YtjoomndcdpkplaaDoorCRead
import Derived.Test.YtjoomndcdpkplaaDoorCRepeat
namespace Go.Ab
open Go.RowKit Go.Proofs
set_option maxRecDepth 10000
set_option maxHeartbeats 4000000
set_option linter.unusedSimpArgs false
set_option linter.unusedVariables false
def perG (l : List UInt8) (n : Nat) : Prop := l.length % n = 0 ∧ l.drop n = l.take (l.length - n)
def isPer (l : List UInt8) (N : Nat) : Prop := 1 ≤ N ∧ N ≤ l.length ∧ perG l N ∧ ∀ j, 1 ≤ j → j < N → ¬ perG l j
theorem ex_min {P : Nat → Prop} (n : Nat) (h : P n) : ∃ m, m ≤ n ∧ P m ∧ ∀ j, j < m → ¬ P j := by
  induction n using Nat.strongRecOn with
  | _ n ih =>
    by_cases he : ∃ j, j < n ∧ P j
    · obtain ⟨j, hj, hp⟩ := he
      obtain ⟨m, h1, h2, h3⟩ := ih j hj hp
      exact ⟨m, by omega, h2, h3⟩
    · exact ⟨n, Nat.le_refl _, h, fun j hj hp => he ⟨j, hj, hp⟩⟩
theorem ex_per {l : List UInt8} (h : 1 ≤ l.length) : ∃ N, isPer l N := by
  obtain ⟨m, h1, ⟨h2, h3⟩, h4⟩ := ex_min (P := fun n => 1 ≤ n ∧ perG l n) l.length ⟨h, Nat.mod_self _, by simp⟩
  exact ⟨m, h2, h1, h3, fun j hj hlt hp => h4 j hlt ⟨hj, hp⟩⟩
theorem rdB_lt {l : List UInt8} {i : Nat} (h : i < l.length) : rdB l i = l[i] := by simp [rdB, List.getD, List.getElem?_eq_getElem h]
theorem rd_ext {a b : List UInt8} (h : a.length = b.length) (h2 : ∀ i, i < a.length → rdB a i = rdB b i) : a = b := by
  refine List.ext_getElem h fun i h3 h4 => ?_
  rw [← rdB_lt h3, ← rdB_lt h4]; exact h2 i h3
theorem rdB_drop (l : List UInt8) (n i : Nat) : rdB (l.drop n) i = rdB l (n + i) := by simp [rdB, List.getD]
theorem rdB_take {l : List UInt8} {n i : Nat} (h : i < n) : rdB (l.take n) i = rdB l i := by simp [rdB, List.getD, List.getElem?_take, h]
theorem rdB_app {a b : List UInt8} {i : Nat} (h : i < a.length) : rdB (a ++ b) i = rdB a i := by simp [rdB, List.getD, List.getElem?_append_left h]
theorem rdB_app2 {a b : List UInt8} {i : Nat} (h : a.length ≤ i) : rdB (a ++ b) i = rdB b (i - a.length) := by simp [rdB, List.getD, List.getElem?_append_right h]
theorem shift_iff {l : List UInt8} {n : Nat} (hn : n ≤ l.length) : l.drop n = l.take (l.length - n) ↔ ∀ i, i + n < l.length → rdB l (i + n) = rdB l i := by
  constructor
  · intro h i hi
    have := congrArg (rdB · i) h
    simp only [rdB_drop] at this
    rw [rdB_take (by omega)] at this
    rw [Nat.add_comm]; exact this
  · intro h
    refine rd_ext (by simp only [List.length_drop, List.length_take]; omega) fun i hi => ?_
    simp only [List.length_drop] at hi
    rw [rdB_drop, rdB_take (by omega), Nat.add_comm]
    exact h i (by omega)
theorem mod_per {l : List UInt8} {n : Nat} (h : ∀ i, i + n < l.length → rdB l (i + n) = rdB l i) (h1 : 1 ≤ n) : ∀ j, j < l.length → rdB l j = rdB l (j % n) := by
  intro j
  induction j using Nat.strongRecOn with
  | _ j ih =>
    intro hj
    by_cases hlt : j < n
    · rw [Nat.mod_eq_of_lt hlt]
    · have e : j = (j - n) + n := by omega
      have e2 : j % n = (j - n) % n := Nat.mod_eq_sub_mod (by omega)
      rw [e2, ← ih (j - n) (by omega) (by omega), ← h (j - n) (by omega), ← e]
/-- The endless string. -/
def endl (l : List UInt8) (i : Nat) : UInt8 := rdB l (i % l.length)
def perF (f : Nat → UInt8) (n : Nat) : Prop := ∀ i, f (i + n) = f i
theorem perF_mul {f : Nat → UInt8} {n : Nat} (h : perF f n) (k : Nat) : perF f (n * k) := by
  induction k with
  | zero => intro i; rfl
  | succ k ih => intro i; rw [Nat.mul_succ, ← Nat.add_assoc, h, ih]
theorem perF_gcd {f : Nat → UInt8} (a b : Nat) : perF f a → perF f b → perF f (Nat.gcd a b) := by
  induction a, b using Nat.gcd.induction with
  | H0 b => intro _ h; rw [Nat.gcd_zero_left]; exact h
  | H1 a b ha ih =>
    intro h1 h2
    rw [Nat.gcd_rec]
    refine ih (fun i => ?_) h1
    have e : i + b % a + a * (b / a) = i + b := by have := Nat.mod_add_div b a; omega
    rw [← perF_mul h1 (b / a) (i + b % a), e]
    exact h2 i
theorem endl_len (l : List UInt8) : perF (endl l) l.length := fun i => by simp [endl]
theorem per_iff {l : List UInt8} {n : Nat} (h1 : 1 ≤ n) (h2 : n ≤ l.length) (h3 : l.length % n = 0) : perG l n ↔ perF (endl l) n := by
  have hL : 0 < l.length := by omega
  unfold perG
  rw [shift_iff h2]
  constructor
  · rintro ⟨_, h⟩ i
    have hm := mod_per h h1
    unfold endl
    rw [hm _ (Nat.mod_lt _ hL), hm (i % l.length) (Nat.mod_lt _ hL), Nat.mod_mod_of_dvd _ (Nat.dvd_of_mod_eq_zero h3), Nat.mod_mod_of_dvd _ (Nat.dvd_of_mod_eq_zero h3), Nat.add_mod_right]
  · intro h
    refine ⟨h3, fun i hi => ?_⟩
    have := h i
    unfold endl at this
    rwa [Nat.mod_eq_of_lt hi, Nat.mod_eq_of_lt (by omega)] at this
theorem rep_rd {l : List UInt8} (hL : 0 < l.length) : ∀ (c j : Nat), j < c * l.length → rdB (Go.Lib.repeatL l c) j = rdB l (j % l.length) := by
  intro c
  induction c with
  | zero => intro j h; omega
  | succ c ih =>
    intro j h
    rw [repL_succ]
    by_cases hj : j < c * l.length
    · rw [rdB_app (by rw [repL_len]; exact hj), ih j hj]
    · rw [rdB_app2 (by rw [repL_len]; omega), repL_len]
      have e : j = (j - c * l.length) + l.length * c := by rw [Nat.mul_comm l.length c]; omega
      have hlt : j - c * l.length < l.length := by rw [Nat.succ_mul] at h; omega
      conv => rhs; rw [e, Nat.add_mul_mod_self_left, Nat.mod_eq_of_lt hlt]
theorem endl_rep {l : List UInt8} (hL : 0 < l.length) {c : Nat} (hc : 1 ≤ c) : endl (Go.Lib.repeatL l c) = endl l := by
  funext i
  unfold endl
  have hpos : 0 < c * l.length := Nat.mul_pos hc hL
  rw [repL_len, rep_rd hL c _ (Nat.mod_lt _ hpos), Nat.mod_mod_of_dvd _ (Nat.dvd_mul_left _ _)]
theorem per_rep {l : List UInt8} {N c : Nat} (h : isPer l N) (hc : 1 ≤ c) : isPer (Go.Lib.repeatL l c) N := by
  obtain ⟨h1, h2, h3, h4⟩ := h
  have hL : 0 < l.length := by omega
  have hlen := repL_len l c
  have hle : l.length ≤ c * l.length := Nat.le_mul_of_pos_left _ hc
  have hd : l.length ∣ c * l.length := Nat.dvd_mul_left _ _
  refine ⟨h1, by omega, ?_, fun j hj hlt hp => ?_⟩
  · rw [per_iff h1 (by omega) (by rw [hlen]; exact Nat.mod_eq_zero_of_dvd (Nat.dvd_trans (Nat.dvd_of_mod_eq_zero h3.1) hd)), endl_rep hL hc]
    exact (per_iff h1 h2 h3.1).1 h3
  · rw [per_iff hj (by omega) hp.1, endl_rep hL hc] at hp
    have hg := perF_gcd j l.length hp (endl_len l)
    have g1 : 1 ≤ Nat.gcd j l.length := Nat.gcd_pos_of_pos_right _ hL
    have g2 : Nat.gcd j l.length ≤ j := Nat.gcd_le_left _ hj
    have g3 : l.length % Nat.gcd j l.length = 0 := Nat.mod_eq_zero_of_dvd (Nat.gcd_dvd_right _ _)
    exact h4 _ g1 (by omega) ((per_iff g1 (by omega) g3).2 hg)
theorem rep_per {l : List UInt8} {N : Nat} (h : isPer l N) : Go.Lib.repeatL (l.take N) (l.length / N) = l := by
  obtain ⟨h1, h2, h3, h4⟩ := h
  have ht : (l.take N).length = N := by simp only [List.length_take]; omega
  have hm : l.length / N * N = l.length := Nat.div_mul_cancel (Nat.dvd_of_mod_eq_zero h3.1)
  have hs := mod_per ((shift_iff h2).1 h3.2) h1
  refine rd_ext (by rw [repL_len, ht, hm]) fun i hi => ?_
  rw [repL_len, ht, hm] at hi
  rw [rep_rd (by omega) _ _ (by rw [ht, hm]; exact hi), ht, rdB_take (Nat.mod_lt _ h1), ← hs i hi]
theorem period_ac (l : List UInt8) (hl : l.length ≤ 1048576) (N : Nat) (hN : isPer l N) : AC Tryd.prog 16 [.str l] (.int .i64 (N : Int)) := by
  obtain ⟨h1, h2, h3, h4⟩ := hN
  refine AC.of_run mo Tryd.func16 Tryd.call16 ⟨rfl, Tryd.ntmps16, Tryd.results16, by kernel_rfl⟩ rfl ?_
  repeat' (first | simp only [go_sem, ↓reduceIte, Nat.reduceEqDiff, Nat.reduceAdd, Nat.reduceMul, Nat.reduceSub, Nat.reduceLeDiff, Nat.reduceLT, Nat.reduceBEq, Nat.reduceBNe, Int.reduceLT, Int.reduceLE, Int.reduceEq, Int.reduceNeg, Int.reduceToNat, Int.toNat_natCast, Int.natCast_nonneg, List.length_append, List.length_map, List.length_replicate, Bool.and_eq_true, decide_eq_true_eq, List.length_take, List.length_drop, Int.reduceSub, Int.reduceAdd, Int.reduceMul, Int.sub_zero, Int.add_zero, Int.zero_add, reduceCtorEq, decide_true, decide_false, Bool.false_eq_true, List.reduceReplicate, *] | simp (disch := omega) only [wrap_i64, wrap_u8, Int.tdiv_eq_ediv_of_nonneg, Int.tmod_eq_emod_of_nonneg, if_pos] | refine callP_x ?_ | (refine ret_gen (by first | exact .inr rfl | exact .inl rfl) (rfl) ?_) | (refine guardP_split (fun _ => ?_) (fun _ => ?_)) | (refine condP_split (fun _ => ?_) (fun _ => ?_)) | (refine guardP_splitB (fun _ => ?_) (fun _ => ?_)) | (refine condP_splitB (fun _ => ?_) (fun _ => ?_)))
  refine sx_loop (fun m s => ∃ i, 1 ≤ i ∧ i ≤ N ∧ m = N - i ∧ s.τ 0 = .str l ∧ s.τ 3 = .int .i64 ((i : Nat) : Int)) (N - 1) ⟨1, by simp [go_sem, h1]⟩ ?_
  rintro m s ⟨i, hi1, hi, rfl, t0, t3⟩
  simp only [go_sem, ↓reduceIte, Nat.reduceEqDiff, Nat.reduceAdd, Nat.reduceMul, Nat.reduceSub, Nat.reduceLeDiff, Nat.reduceLT, Nat.reduceBEq, Nat.reduceBNe, Int.reduceLT, Int.reduceLE, Int.reduceEq, Int.reduceNeg, Int.reduceToNat, Int.toNat_natCast, Int.natCast_nonneg, List.length_append, List.length_map, List.length_replicate, Bool.and_eq_true, decide_eq_true_eq, List.length_take, List.length_drop, Int.reduceSub, Int.reduceAdd, Int.reduceMul, Int.sub_zero, Int.add_zero, Int.zero_add, reduceCtorEq, decide_true, decide_false, Bool.false_eq_true, List.reduceReplicate, t0, t3]
  have hne : ¬ (i : Int) = 0 := by omega
  have hle : (i : Int) ≤ (l.length : Int) := by omega
  have hsub : ((l.length : Int) - (i : Int)).toNat = l.length - i := by omega
  by_cases hlt : i < N
  · have hnp := h4 i hi1 hlt
    by_cases c1 : l.length % i = 0
    · have c2 : ¬ l.drop i = l.take (l.length - i) := fun e => hnp ⟨c1, e⟩
      have c1' : (l.length : Int) % (i : Int) = 0 := by omega
      have htk : (l.drop i).take (l.length - i) = l.drop i := List.take_of_length_le (by simp)
      clear h3 h4 hnp c1
      repeat' (first | simp only [go_sem, ↓reduceIte, Nat.reduceEqDiff, Nat.reduceAdd, Nat.reduceMul, Nat.reduceSub, Nat.reduceLeDiff, Nat.reduceLT, Nat.reduceBEq, Nat.reduceBNe, Int.reduceLT, Int.reduceLE, Int.reduceEq, Int.reduceNeg, Int.reduceToNat, Int.toNat_natCast, Int.natCast_nonneg, List.length_append, List.length_map, List.length_replicate, Bool.and_eq_true, decide_eq_true_eq, List.length_take, List.length_drop, Int.reduceSub, Int.reduceAdd, Int.reduceMul, Int.sub_zero, Int.add_zero, Int.zero_add, reduceCtorEq, decide_true, decide_false, Bool.false_eq_true, List.reduceReplicate, *] | simp (disch := omega) only [wrap_i64, wrap_u8, Int.tdiv_eq_ediv_of_nonneg, Int.tmod_eq_emod_of_nonneg, if_pos] | refine callP_x ?_ | (refine ret_gen (by first | exact .inr rfl | exact .inl rfl) (rfl) ?_) | (refine guardP_split (fun _ => ?_) (fun _ => ?_)) | (refine condP_split (fun _ => ?_) (fun _ => ?_)) | (refine guardP_splitB (fun _ => ?_) (fun _ => ?_)) | (refine condP_splitB (fun _ => ?_) (fun _ => ?_)))
      exact ⟨N - (i + 1), by omega, i + 1, by omega, by omega, rfl, by simp only [Int.natCast_add, Int.cast_ofNat_Int]⟩
    · have c1' : ¬ (l.length : Int) % (i : Int) = 0 := by omega
      clear h3 h4 hnp c1
      repeat' (first | simp only [go_sem, ↓reduceIte, Nat.reduceEqDiff, Nat.reduceAdd, Nat.reduceMul, Nat.reduceSub, Nat.reduceLeDiff, Nat.reduceLT, Nat.reduceBEq, Nat.reduceBNe, Int.reduceLT, Int.reduceLE, Int.reduceEq, Int.reduceNeg, Int.reduceToNat, Int.toNat_natCast, Int.natCast_nonneg, List.length_append, List.length_map, List.length_replicate, Bool.and_eq_true, decide_eq_true_eq, List.length_take, List.length_drop, Int.reduceSub, Int.reduceAdd, Int.reduceMul, Int.sub_zero, Int.add_zero, Int.zero_add, reduceCtorEq, decide_true, decide_false, Bool.false_eq_true, List.reduceReplicate, *] | simp (disch := omega) only [wrap_i64, wrap_u8, Int.tdiv_eq_ediv_of_nonneg, Int.tmod_eq_emod_of_nonneg, if_pos] | refine callP_x ?_ | (refine ret_gen (by first | exact .inr rfl | exact .inl rfl) (rfl) ?_) | (refine guardP_split (fun _ => ?_) (fun _ => ?_)) | (refine condP_split (fun _ => ?_) (fun _ => ?_)) | (refine guardP_splitB (fun _ => ?_) (fun _ => ?_)) | (refine condP_splitB (fun _ => ?_) (fun _ => ?_)))
      exact ⟨N - (i + 1), by omega, i + 1, by omega, by omega, rfl, by simp only [Int.natCast_add, Int.cast_ofNat_Int]⟩
  · have e : i = N := by omega
    subst e
    have c1' : (l.length : Int) % (i : Int) = 0 := by have := h3.1; omega
    have c2 := h3.2
    have htk : (l.drop i).take (l.length - i) = l.drop i := List.take_of_length_le (by simp)
    have htk2 : (l.take (l.length - i)).take (l.length - i) = l.take (l.length - i) := List.take_of_length_le (by simp only [List.length_take]; omega)
    clear h3 h4
    repeat' (first | simp only [go_sem, ↓reduceIte, Nat.reduceEqDiff, Nat.reduceAdd, Nat.reduceMul, Nat.reduceSub, Nat.reduceLeDiff, Nat.reduceLT, Nat.reduceBEq, Nat.reduceBNe, Int.reduceLT, Int.reduceLE, Int.reduceEq, Int.reduceNeg, Int.reduceToNat, Int.toNat_natCast, Int.natCast_nonneg, List.length_append, List.length_map, List.length_replicate, Bool.and_eq_true, decide_eq_true_eq, List.length_take, List.length_drop, Int.reduceSub, Int.reduceAdd, Int.reduceMul, Int.sub_zero, Int.add_zero, Int.zero_add, reduceCtorEq, decide_true, decide_false, Bool.false_eq_true, List.reduceReplicate, *] | simp (disch := omega) only [wrap_i64, wrap_u8, Int.tdiv_eq_ediv_of_nonneg, Int.tmod_eq_emod_of_nonneg, if_pos] | refine callP_x ?_ | (refine ret_gen (by first | exact .inr rfl | exact .inl rfl) (rfl) ?_) | (refine guardP_split (fun _ => ?_) (fun _ => ?_)) | (refine condP_split (fun _ => ?_) (fun _ => ?_)) | (refine guardP_splitB (fun _ => ?_) (fun _ => ?_)) | (refine condP_splitB (fun _ => ?_) (fun _ => ?_)))
    all_goals trace_state
    all_goals omega
theorem period0_ac : AC Tryd.prog 16 [.str []] (.int .i64 0) := by
  refine AC.of_run mo Tryd.func16 Tryd.call16 ⟨rfl, Tryd.ntmps16, Tryd.results16, by kernel_rfl⟩ rfl ?_
  repeat' (first | simp only [go_sem, ↓reduceIte, Nat.reduceEqDiff, Nat.reduceAdd, Nat.reduceMul, Nat.reduceSub, Nat.reduceLeDiff, Nat.reduceLT, Nat.reduceBEq, Nat.reduceBNe, Int.reduceLT, Int.reduceLE, Int.reduceEq, Int.reduceNeg, Int.reduceToNat, Int.toNat_natCast, Int.natCast_nonneg, List.length_append, List.length_map, List.length_replicate, Bool.and_eq_true, decide_eq_true_eq, List.length_take, List.length_drop, Int.reduceSub, Int.reduceAdd, Int.reduceMul, Int.sub_zero, Int.add_zero, Int.zero_add, reduceCtorEq, decide_true, decide_false, Bool.false_eq_true, List.reduceReplicate, *] | simp (disch := omega) only [wrap_i64, wrap_u8, Int.tdiv_eq_ediv_of_nonneg, Int.tmod_eq_emod_of_nonneg, if_pos] | refine callP_x ?_ | (refine ret_gen (by first | exact .inr rfl | exact .inl rfl) (rfl) ?_) | (refine guardP_split (fun _ => ?_) (fun _ => ?_)) | (refine condP_split (fun _ => ?_) (fun _ => ?_)) | (refine guardP_splitB (fun _ => ?_) (fun _ => ?_)) | (refine condP_splitB (fun _ => ?_) (fun _ => ?_)))
  refine sx_loop (fun m s => s.τ 0 = .str [] ∧ s.τ 3 = .int .i64 1) 0 (by simp [go_sem]) ?_
  rintro m s ⟨t0, t3⟩
  simp only [go_sem, ↓reduceIte, Nat.reduceEqDiff, Nat.reduceAdd, Nat.reduceMul, Nat.reduceSub, Nat.reduceLeDiff, Nat.reduceLT, Nat.reduceBEq, Nat.reduceBNe, Int.reduceLT, Int.reduceLE, Int.reduceEq, Int.reduceNeg, Int.reduceToNat, Int.toNat_natCast, Int.natCast_nonneg, List.length_append, List.length_map, List.length_replicate, Bool.and_eq_true, decide_eq_true_eq, List.length_take, List.length_drop, Int.reduceSub, Int.reduceAdd, Int.reduceMul, Int.sub_zero, Int.add_zero, Int.zero_add, reduceCtorEq, decide_true, decide_false, Bool.false_eq_true, List.reduceReplicate, t0, t3]
  repeat' (first | simp only [go_sem, ↓reduceIte, Nat.reduceEqDiff, Nat.reduceAdd, Nat.reduceMul, Nat.reduceSub, Nat.reduceLeDiff, Nat.reduceLT, Nat.reduceBEq, Nat.reduceBNe, Int.reduceLT, Int.reduceLE, Int.reduceEq, Int.reduceNeg, Int.reduceToNat, Int.toNat_natCast, Int.natCast_nonneg, List.length_append, List.length_map, List.length_replicate, Bool.and_eq_true, decide_eq_true_eq, List.length_take, List.length_drop, Int.reduceSub, Int.reduceAdd, Int.reduceMul, Int.sub_zero, Int.add_zero, Int.zero_add, reduceCtorEq, decide_true, decide_false, Bool.false_eq_true, List.reduceReplicate, *] | simp (disch := omega) only [wrap_i64, wrap_u8, Int.tdiv_eq_ediv_of_nonneg, Int.tmod_eq_emod_of_nonneg, if_pos] | refine callP_x ?_ | (refine ret_gen (by first | exact .inr rfl | exact .inl rfl) (rfl) ?_) | (refine guardP_split (fun _ => ?_) (fun _ => ?_)) | (refine condP_split (fun _ => ?_) (fun _ => ?_)) | (refine guardP_splitB (fun _ => ?_) (fun _ => ?_)) | (refine condP_splitB (fun _ => ?_) (fun _ => ?_)))
end Go.Ab
