/- The contracts of the functions on checksums. Conditions: none. -/
import Derived.Test.YthdbfnjekbnbkaaCList
namespace Go.Ab
open Go.RowKit Go.Proofs
set_option maxRecDepth 10000
set_option maxHeartbeats 4000000
set_option linter.unusedSimpArgs false
set_option linter.unusedVariables false
def crcBit (v : Nat) (bit : Nat) : Nat := if v / 32768 = bit then v * 2 % 65536 else (v * 2 % 65536) ^^^ 4129
def bitAt (b : UInt8) (k : Nat) : Nat := b.toNat / 2 ^ k % 2
theorem bitAt_lt {b : UInt8} {k : Nat} : bitAt b k < 2 := Nat.mod_lt _ (by decide)
def crcTo (v : Nat) (b : UInt8) : Nat → Nat
  | 0 => v
  | j + 1 => crcBit (crcTo v b j) (bitAt b (7 - j))
def crcL (v : Nat) (l : List UInt8) : Nat := l.foldl (fun v b => crcTo v b 8) v
theorem crcBit_lt {v bit : Nat} : crcBit v bit < 65536 := by
  unfold crcBit
  split
  · omega
  · exact Nat.xor_lt_two_pow (n := 16) (by omega) (by omega)
theorem crcTo_lt {v : Nat} {b : UInt8} (h : v < 65536) : ∀ j, crcTo v b j < 65536
  | 0 => h
  | j + 1 => crcBit_lt
theorem crcL_take {v : Nat} {l : List UInt8} {i : Nat} (h : i < l.length) : crcL v (l.take (i + 1)) = crcTo (crcL v (l.take i)) l[i] 8 := by
  simp only [crcL, List.take_add_one, List.getElem?_eq_getElem h, Option.toList_some, List.foldl_append, List.foldl_cons, List.foldl_nil]
theorem crcL_lt {v : Nat} (hv : v < 65536) : ∀ l : List UInt8, crcL v l < 65536 := by
  intro l
  induction l generalizing v with
  | nil => exact hv
  | cons b l ih => exact ih (crcTo_lt hv 8)
theorem ofInt_nat {w n : Nat} (h : n < 2 ^ w) : (BitVec.ofInt w (n : Int)).toNat = n := by
  rw [BitVec.ofInt_natCast, BitVec.toNat_ofNat, Nat.mod_eq_of_lt h]
theorem and_i64 {x m : Nat} (hx : x < 2 ^ 63) (hm : m < 2 ^ 63) : bitAnd .i64 (x : Int) (m : Int) = ((x &&& m : Nat) : Int) := by
  show IntKind.wrap _ (BitVec.toNat (BitVec.ofInt (64) _ &&& BitVec.ofInt (64) _) : Int) = _
  rw [BitVec.toNat_and, ofInt_nat (by omega), ofInt_nat (by omega)]
  have := Nat.and_le_left (n := x) (m := m)
  exact wrap_i64 (by omega)
theorem xor_i64 {x m : Nat} (hx : x < 2 ^ 62) (hm : m < 2 ^ 62) : bitXor .i64 (x : Int) (m : Int) = ((x ^^^ m : Nat) : Int) := by
  show IntKind.wrap _ (BitVec.toNat (BitVec.ofInt 64 _ ^^^ BitVec.ofInt 64 _) : Int) = _
  rw [BitVec.toNat_xor, ofInt_nat (by omega), ofInt_nat (by omega)]
  have := Nat.xor_lt_two_pow hx hm
  exact wrap_i64 (by omega)
theorem and_u8 {x m : Nat} (hx : x < 256) (hm : m < 256) : bitAnd .u8 (x : Int) (m : Int) = ((x &&& m : Nat) : Int) := by
  show IntKind.wrap _ (BitVec.toNat (BitVec.ofInt (8) _ &&& BitVec.ofInt (8) _) : Int) = _
  rw [BitVec.toNat_and, ofInt_nat (by omega), ofInt_nat (by omega)]
  have := Nat.and_le_left (n := x) (m := m)
  exact wrap_u8 (by omega)
theorem bits64 : IntKind.i64.bits = 64 := (rfl)
theorem bits8 : IntKind.u8.bits = 8 := (rfl)
theorem and_word {V : Nat} (h : V < 65536) : bitAnd .i64 ((V : Int) * 2) 65535 = ((V * 2 % 65536 : Nat) : Int) := by
  have := and_i64 (x := V * 2) (m := 65535) (by omega) (by omega)
  rw [Nat.and_two_pow_sub_one_eq_mod (V * 2) 16] at this
  simpa using this
theorem and_bit {b : UInt8} {k : Nat} : bitAnd .u8 ((b.toNat / 2 ^ k : Nat) : Int) 1 = ((bitAt b k : Nat) : Int) := by
  have h1 := b.toNat_lt
  have h2 := Nat.div_le_self b.toNat (2 ^ k)
  have := and_u8 (x := b.toNat / 2 ^ k) (m := 1) (by omega) (by omega)
  rw [Nat.and_two_pow_sub_one_eq_mod (b.toNat / 2 ^ k) 1] at this
  simpa [bitAt] using this
theorem and_bit64 {b : UInt8} {k : Nat} : bitAnd .i64 ((b.toNat / 2 ^ k : Nat) : Int) 1 = ((bitAt b k : Nat) : Int) := by
  have h1 := b.toNat_lt
  have h2 := Nat.div_le_self b.toNat (2 ^ k)
  have := and_i64 (x := b.toNat / 2 ^ k) (m := 1) (by omega) (by omega)
  rw [Nat.and_two_pow_sub_one_eq_mod (b.toNat / 2 ^ k) 1] at this
  simpa [bitAt] using this
theorem shr_byte {b : UInt8} {j : Nat} (hj : j ≤ 7) : ((b.toNat : Int)).fdiv (2 ^ min (7 - (j : Int)).toNat 8) = ((b.toNat / 2 ^ (7 - j) : Nat) : Int) := by
  have e : min (7 - (j : Int)).toNat 8 = 7 - j := by omega
  rw [e, Int.fdiv_eq_ediv_of_nonneg _ (Int.pow_nonneg (by omega)), Int.natCast_ediv, Int.natCast_pow]
  rfl
theorem and_top {V : Nat} (h : V < 65536) : bitAnd .i64 ((V / 32768 : Nat) : Int) 1 = ((V / 32768 : Nat) : Int) := by
  have := and_i64 (x := V / 32768) (m := 1) (by omega) (by omega)
  rw [Nat.and_two_pow_sub_one_eq_mod (V / 32768) 1] at this
  have e : V / 32768 % 2 ^ 1 = V / 32768 := by omega
  rw [e] at this
  exact this
theorem wrap_u64 {x : Int} (h : 0 ≤ x ∧ x ≤ 255) : IntKind.u64.wrap x = x := by
  simp only [IntKind.wrap, IntKind.bits, IntKind.signed]
  simp
  omega
theorem xor_word {V : Nat} : bitXor .i64 ((V * 2 % 65536 : Nat) : Int) 4129 = (((V * 2 % 65536) ^^^ 4129 : Nat) : Int) := xor_i64 (x := V * 2 % 65536) (m := 4129) (by omega) (by omega)
theorem iCrc_ac (l : List UInt8) (v : Nat) (hv : v < 65536) (hl : l.length ≤ 4294967296) : AC Try.prog 47 [.str l, .int .i64 (v : Int)] (.int .i64 (crcL v l : Nat)) := by
  refine AC.of_run mo Try.func47 Try.call47 ⟨rfl, Try.ntmps47, Try.results47, by kernel_rfl⟩ rfl ?_
  repeat' (first | simp only [go_sem, ↓reduceIte, Nat.reduceEqDiff, Nat.reduceAdd, Nat.reduceMul, Nat.reduceSub, Nat.reduceLeDiff, Nat.reduceLT, Nat.reduceBEq, Nat.reduceBNe, Int.reduceLT, Int.reduceLE, Int.reduceEq, Int.reduceNeg, Int.reduceToNat, Int.toNat_natCast, Int.natCast_nonneg, List.length_append, List.length_map, List.length_replicate, Bool.and_eq_true, decide_eq_true_eq, List.length_take, List.length_drop, Int.reduceSub, Int.reduceAdd, Int.reduceMul, Int.sub_zero, Int.add_zero, Int.zero_add, reduceCtorEq, decide_true, decide_false, Bool.false_eq_true, List.reduceReplicate, *] | simp (disch := omega) only [wrap_i64, wrap_u8, Int.tdiv_eq_ediv_of_nonneg, Int.tmod_eq_emod_of_nonneg, if_pos] | refine callP_x ?_ | (refine ret_gen (by first | exact .inr rfl | exact .inl rfl) (rfl) ?_) | (refine guardP_split (fun _ => ?_) (fun _ => ?_)) | (refine condP_split (fun _ => ?_) (fun _ => ?_)) | (refine guardP_splitB (fun _ => ?_) (fun _ => ?_)) | (refine condP_splitB (fun _ => ?_) (fun _ => ?_)))
  refine sx_loop (fun m s => ∃ i, i ≤ l.length ∧ m = l.length - i ∧ s.τ 0 = .str l ∧ s.τ 1 = .int .i64 (crcL v (l.take i) : Nat) ∧ s.τ 9 = .int .i64 l.length ∧ s.τ 10 = .int .i64 (i : Int)) l.length ⟨0, by simp [go_sem, crcL]⟩ ?_
  rintro m s ⟨i, hi, rfl, t0, t1, t9, t10⟩
  simp only [go_sem, ↓reduceIte, Nat.reduceEqDiff, Nat.reduceAdd, Nat.reduceMul, Nat.reduceSub, Nat.reduceLeDiff, Nat.reduceLT, Nat.reduceBEq, Nat.reduceBNe, Int.reduceLT, Int.reduceLE, Int.reduceEq, Int.reduceNeg, Int.reduceToNat, Int.toNat_natCast, Int.natCast_nonneg, List.length_append, List.length_map, List.length_replicate, Bool.and_eq_true, decide_eq_true_eq, List.length_take, List.length_drop, Int.reduceSub, Int.reduceAdd, Int.reduceMul, Int.sub_zero, Int.add_zero, Int.zero_add, reduceCtorEq, decide_true, decide_false, Bool.false_eq_true, List.reduceReplicate, t0, t1, t9, t10]
  refine condP_split (fun h => ?_) (fun h => ?_)
  · have hlt : i < l.length := by omega
    repeat' (first | simp only [go_sem, ↓reduceIte, Nat.reduceEqDiff, Nat.reduceAdd, Nat.reduceMul, Nat.reduceSub, Nat.reduceLeDiff, Nat.reduceLT, Nat.reduceBEq, Nat.reduceBNe, Int.reduceLT, Int.reduceLE, Int.reduceEq, Int.reduceNeg, Int.reduceToNat, Int.toNat_natCast, Int.natCast_nonneg, List.length_append, List.length_map, List.length_replicate, Bool.and_eq_true, decide_eq_true_eq, List.length_take, List.length_drop, Int.reduceSub, Int.reduceAdd, Int.reduceMul, Int.sub_zero, Int.add_zero, Int.zero_add, reduceCtorEq, decide_true, decide_false, Bool.false_eq_true, List.reduceReplicate, *] | simp (disch := omega) only [wrap_i64, wrap_u8, Int.tdiv_eq_ediv_of_nonneg, Int.tmod_eq_emod_of_nonneg, if_pos] | refine callP_x ?_ | (refine ret_gen (by first | exact .inr rfl | exact .inl rfl) (rfl) ?_) | (refine guardP_split (fun _ => ?_) (fun _ => ?_)) | (refine condP_split (fun _ => ?_) (fun _ => ?_)) | (refine guardP_splitB (fun _ => ?_) (fun _ => ?_)) | (refine condP_splitB (fun _ => ?_) (fun _ => ?_)))
    refine sx_loop (fun m s => ∃ j, j ≤ 8 ∧ m = 8 - j ∧ s.τ 0 = .str l ∧ s.τ 1 = .int .i64 (crcTo (crcL v (l.take i)) l[i] j : Nat) ∧ s.τ 5 = .int .i64 (i : Int) ∧ s.τ 6 = .int .i64 (7 - (j : Int)) ∧ s.τ 9 = .int .i64 l.length ∧ s.τ 10 = .int .i64 (i : Int)) 8 ⟨0, by simp [go_sem, crcTo, *]⟩ ?_
    rintro m s ⟨j, hj, rfl, u0, u1, u5, u6, u9, u10⟩
    simp only [go_sem, ↓reduceIte, Nat.reduceEqDiff, Nat.reduceAdd, Nat.reduceMul, Nat.reduceSub, Nat.reduceLeDiff, Nat.reduceLT, Nat.reduceBEq, Nat.reduceBNe, Int.reduceLT, Int.reduceLE, Int.reduceEq, Int.reduceNeg, Int.reduceToNat, Int.toNat_natCast, Int.natCast_nonneg, List.length_append, List.length_map, List.length_replicate, Bool.and_eq_true, decide_eq_true_eq, List.length_take, List.length_drop, Int.reduceSub, Int.reduceAdd, Int.reduceMul, Int.sub_zero, Int.add_zero, Int.zero_add, reduceCtorEq, decide_true, decide_false, Bool.false_eq_true, List.reduceReplicate, u0, u1, u5, u6, u9, u10]
    refine condP_split (fun hc => ?_) (fun hc => ?_)
    · have hg := List.getElem?_eq_getElem hlt
      have hV := crcTo_lt (b := l[i]) (crcL_lt hv (l.take i)) j
      have hbs := (l[i]).toNat_lt
      have hsucc : crcTo (crcL v (l.take i)) l[i] (j + 1) = crcBit (crcTo (crcL v (l.take i)) l[i] j) (bitAt l[i] (7 - j)) := rfl
      generalize crcTo (crcL v (l.take i)) l[i] j = V at u1 hV hsucc
      have p15 : (2 : Int) ^ min 15 64 = 32768 := by decide
      have p1 : (2 : Int) ^ min 1 64 = 2 := by decide
      have hf : ((V : Int)).fdiv 32768 = ((V / 32768 : Nat) : Int) := by rw [Int.fdiv_eq_ediv_of_nonneg _ (by omega)]; omega
      have hsh := shr_byte (b := l[i]) (j := j) (by omega)
      have hand := and_word hV
      have hb1 := and_bit (b := l[i]) (k := 7 - j)
      have hba := bitAt_lt (b := l[i]) (k := 7 - j)
      have hdq := Nat.div_le_self (l[i]).toNat (2 ^ (7 - j))
      have hc2 : ¬ (7 - (j : Int)) < 0 := by omega
      have hx := xor_word (V := V)
      repeat' (first | simp only [go_sem, ↓reduceIte, Nat.reduceEqDiff, Nat.reduceAdd, Nat.reduceMul, Nat.reduceSub, Nat.reduceLeDiff, Nat.reduceLT, Nat.reduceBEq, Nat.reduceBNe, Int.reduceLT, Int.reduceLE, Int.reduceEq, Int.reduceNeg, Int.reduceToNat, Int.toNat_natCast, Int.natCast_nonneg, List.length_append, List.length_map, List.length_replicate, Bool.and_eq_true, decide_eq_true_eq, List.length_take, List.length_drop, Int.reduceSub, Int.reduceAdd, Int.reduceMul, Int.sub_zero, Int.add_zero, Int.zero_add, reduceCtorEq, decide_true, decide_false, Bool.false_eq_true, List.reduceReplicate, *] | simp (disch := omega) only [wrap_i64, wrap_u8, Int.tdiv_eq_ediv_of_nonneg, Int.tmod_eq_emod_of_nonneg, if_pos] | refine callP_x ?_ | (refine ret_gen (by first | exact .inr rfl | exact .inl rfl) (rfl) ?_) | (refine guardP_split (fun _ => ?_) (fun _ => ?_)) | (refine condP_split (fun _ => ?_) (fun _ => ?_)) | (refine guardP_splitB (fun _ => ?_) (fun _ => ?_)) | (refine condP_splitB (fun _ => ?_) (fun _ => ?_)))
      all_goals first
        | exact ⟨8 - (j + 1), by omega, j + 1, by omega, rfl, by rw [hsucc, crcBit, if_neg (by omega)], by congr 1; omega⟩
        | exact ⟨8 - (j + 1), by omega, j + 1, by omega, rfl, by rw [hsucc, crcBit, if_pos (by omega)], by congr 1; omega⟩
    · have e : j = 8 := by omega
      subst e
      repeat' (first | simp only [go_sem, ↓reduceIte, Nat.reduceEqDiff, Nat.reduceAdd, Nat.reduceMul, Nat.reduceSub, Nat.reduceLeDiff, Nat.reduceLT, Nat.reduceBEq, Nat.reduceBNe, Int.reduceLT, Int.reduceLE, Int.reduceEq, Int.reduceNeg, Int.reduceToNat, Int.toNat_natCast, Int.natCast_nonneg, List.length_append, List.length_map, List.length_replicate, Bool.and_eq_true, decide_eq_true_eq, List.length_take, List.length_drop, Int.reduceSub, Int.reduceAdd, Int.reduceMul, Int.sub_zero, Int.add_zero, Int.zero_add, reduceCtorEq, decide_true, decide_false, Bool.false_eq_true, List.reduceReplicate, *] | simp (disch := omega) only [wrap_i64, wrap_u8, Int.tdiv_eq_ediv_of_nonneg, Int.tmod_eq_emod_of_nonneg, if_pos] | refine callP_x ?_ | (refine ret_gen (by first | exact .inr rfl | exact .inl rfl) (rfl) ?_) | (refine guardP_split (fun _ => ?_) (fun _ => ?_)) | (refine condP_split (fun _ => ?_) (fun _ => ?_)) | (refine guardP_splitB (fun _ => ?_) (fun _ => ?_)) | (refine condP_splitB (fun _ => ?_) (fun _ => ?_)))
      exact ⟨l.length - (i + 1), by omega, i + 1, by omega, rfl, by rw [crcL_take hlt], by simp only [Int.natCast_add, Int.cast_ofNat_Int]⟩
  · have e : i = l.length := by omega
    subst e
    repeat' (first | simp only [go_sem, ↓reduceIte, Nat.reduceEqDiff, Nat.reduceAdd, Nat.reduceMul, Nat.reduceSub, Nat.reduceLeDiff, Nat.reduceLT, Nat.reduceBEq, Nat.reduceBNe, Int.reduceLT, Int.reduceLE, Int.reduceEq, Int.reduceNeg, Int.reduceToNat, Int.toNat_natCast, Int.natCast_nonneg, List.length_append, List.length_map, List.length_replicate, Bool.and_eq_true, decide_eq_true_eq, List.length_take, List.length_drop, Int.reduceSub, Int.reduceAdd, Int.reduceMul, Int.sub_zero, Int.add_zero, Int.zero_add, reduceCtorEq, decide_true, decide_false, Bool.false_eq_true, List.reduceReplicate, *] | simp (disch := omega) only [wrap_i64, wrap_u8, Int.tdiv_eq_ediv_of_nonneg, Int.tmod_eq_emod_of_nonneg, if_pos] | refine callP_x ?_ | (refine ret_gen (by first | exact .inr rfl | exact .inl rfl) (rfl) ?_) | (refine guardP_split (fun _ => ?_) (fun _ => ?_)) | (refine condP_split (fun _ => ?_) (fun _ => ?_)) | (refine guardP_splitB (fun _ => ?_) (fun _ => ?_)) | (refine condP_splitB (fun _ => ?_) (fun _ => ?_)))
    rw [List.take_length]
theorem l01Crc_ac (l : List UInt8) (v : Nat) (hv : v < 65536) (hl : l.length ≤ 4294967296) : AC Try.prog 103 [.str l, .int .i64 (v : Int)] (.int .i64 (crcL v l : Nat)) := by
  refine AC.of_run mo Try.func103 Try.call103 ⟨rfl, Try.ntmps103, Try.results103, by kernel_rfl⟩ rfl ?_
  repeat' (first | simp only [go_sem, ↓reduceIte, Nat.reduceEqDiff, Nat.reduceAdd, Nat.reduceMul, Nat.reduceSub, Nat.reduceLeDiff, Nat.reduceLT, Nat.reduceBEq, Nat.reduceBNe, Int.reduceLT, Int.reduceLE, Int.reduceEq, Int.reduceNeg, Int.reduceToNat, Int.toNat_natCast, Int.natCast_nonneg, List.length_append, List.length_map, List.length_replicate, Bool.and_eq_true, decide_eq_true_eq, List.length_take, List.length_drop, Int.reduceSub, Int.reduceAdd, Int.reduceMul, Int.sub_zero, Int.add_zero, Int.zero_add, reduceCtorEq, decide_true, decide_false, Bool.false_eq_true, List.reduceReplicate, *] | simp (disch := omega) only [wrap_i64, wrap_u8, Int.tdiv_eq_ediv_of_nonneg, Int.tmod_eq_emod_of_nonneg, if_pos] | refine callP_x ?_ | (refine ret_gen (by first | exact .inr rfl | exact .inl rfl) (rfl) ?_) | (refine guardP_split (fun _ => ?_) (fun _ => ?_)) | (refine condP_split (fun _ => ?_) (fun _ => ?_)) | (refine guardP_splitB (fun _ => ?_) (fun _ => ?_)) | (refine condP_splitB (fun _ => ?_) (fun _ => ?_)))
  refine sx_loop (fun m s => ∃ i, i ≤ l.length ∧ m = l.length - i ∧ s.τ 0 = .str l ∧ s.τ 5 = .int .i64 (crcL v (l.take i) : Nat) ∧ s.τ 6 = .int .i64 (i : Int)) l.length ⟨0, by simp [go_sem, crcL]⟩ ?_
  rintro m s ⟨i, hi, rfl, t0, t5, t6⟩
  simp only [go_sem, ↓reduceIte, Nat.reduceEqDiff, Nat.reduceAdd, Nat.reduceMul, Nat.reduceSub, Nat.reduceLeDiff, Nat.reduceLT, Nat.reduceBEq, Nat.reduceBNe, Int.reduceLT, Int.reduceLE, Int.reduceEq, Int.reduceNeg, Int.reduceToNat, Int.toNat_natCast, Int.natCast_nonneg, List.length_append, List.length_map, List.length_replicate, Bool.and_eq_true, decide_eq_true_eq, List.length_take, List.length_drop, Int.reduceSub, Int.reduceAdd, Int.reduceMul, Int.sub_zero, Int.add_zero, Int.zero_add, reduceCtorEq, decide_true, decide_false, Bool.false_eq_true, List.reduceReplicate, t0, t5, t6]
  refine condP_split (fun h => ?_) (fun h => ?_)
  · have hlt : i < l.length := by omega
    repeat' (first | simp only [go_sem, ↓reduceIte, Nat.reduceEqDiff, Nat.reduceAdd, Nat.reduceMul, Nat.reduceSub, Nat.reduceLeDiff, Nat.reduceLT, Nat.reduceBEq, Nat.reduceBNe, Int.reduceLT, Int.reduceLE, Int.reduceEq, Int.reduceNeg, Int.reduceToNat, Int.toNat_natCast, Int.natCast_nonneg, List.length_append, List.length_map, List.length_replicate, Bool.and_eq_true, decide_eq_true_eq, List.length_take, List.length_drop, Int.reduceSub, Int.reduceAdd, Int.reduceMul, Int.sub_zero, Int.add_zero, Int.zero_add, reduceCtorEq, decide_true, decide_false, Bool.false_eq_true, List.reduceReplicate, *] | simp (disch := omega) only [wrap_i64, wrap_u8, Int.tdiv_eq_ediv_of_nonneg, Int.tmod_eq_emod_of_nonneg, if_pos] | refine callP_x ?_ | (refine ret_gen (by first | exact .inr rfl | exact .inl rfl) (rfl) ?_) | (refine guardP_split (fun _ => ?_) (fun _ => ?_)) | (refine condP_split (fun _ => ?_) (fun _ => ?_)) | (refine guardP_splitB (fun _ => ?_) (fun _ => ?_)) | (refine condP_splitB (fun _ => ?_) (fun _ => ?_)))
    refine sx_loop (fun m s => ∃ j, j ≤ 8 ∧ m = 8 - j ∧ s.τ 0 = .str l ∧ s.τ 5 = .int .i64 (crcTo (crcL v (l.take i)) l[i] j : Nat) ∧ s.τ 6 = .int .i64 (i : Int) ∧ s.τ 7 = .int .i64 (7 - (j : Int))) 8 ⟨0, by simp [go_sem, crcTo, *]⟩ ?_
    rintro m s ⟨j, hj, rfl, u0, u5, u6, u7⟩
    simp only [go_sem, ↓reduceIte, Nat.reduceEqDiff, Nat.reduceAdd, Nat.reduceMul, Nat.reduceSub, Nat.reduceLeDiff, Nat.reduceLT, Nat.reduceBEq, Nat.reduceBNe, Int.reduceLT, Int.reduceLE, Int.reduceEq, Int.reduceNeg, Int.reduceToNat, Int.toNat_natCast, Int.natCast_nonneg, List.length_append, List.length_map, List.length_replicate, Bool.and_eq_true, decide_eq_true_eq, List.length_take, List.length_drop, Int.reduceSub, Int.reduceAdd, Int.reduceMul, Int.sub_zero, Int.add_zero, Int.zero_add, reduceCtorEq, decide_true, decide_false, Bool.false_eq_true, List.reduceReplicate, u0, u5, u6, u7]
    refine condP_split (fun hc => ?_) (fun hc => ?_)
    · have hg := List.getElem?_eq_getElem hlt
      have hV := crcTo_lt (b := l[i]) (crcL_lt hv (l.take i)) j
      have hbs := (l[i]).toNat_lt
      have hsucc : crcTo (crcL v (l.take i)) l[i] (j + 1) = crcBit (crcTo (crcL v (l.take i)) l[i] j) (bitAt l[i] (7 - j)) := rfl
      generalize crcTo (crcL v (l.take i)) l[i] j = V at u5 hV hsucc
      have p15 : (2 : Int) ^ min 15 64 = 32768 := by decide
      have p1 : (2 : Int) ^ min 1 64 = 2 := by decide
      have hf : ((V : Int)).fdiv 32768 = ((V / 32768 : Nat) : Int) := by rw [Int.fdiv_eq_ediv_of_nonneg _ (by omega)]; omega
      have hsh := shr_byte (b := l[i]) (j := j) (by omega)
      have hand := and_word hV
      have hb1 := and_bit64 (b := l[i]) (k := 7 - j)
      have hb2 := and_top hV
      have hba := bitAt_lt (b := l[i]) (k := 7 - j)
      have hdq := Nat.div_le_self (l[i]).toNat (2 ^ (7 - j))
      have hc2 : ¬ (7 - (j : Int)) < 0 := by omega
      have hx := xor_word (V := V)
      have hu := wrap_u64 (x := 7 - (j : Int)) (by omega)
      generalize (l[i]).toNat / 2 ^ (7 - j) = Q at hsh hdq hb1
      repeat' (first | simp only [go_sem, ↓reduceIte, Nat.reduceEqDiff, Nat.reduceAdd, Nat.reduceMul, Nat.reduceSub, Nat.reduceLeDiff, Nat.reduceLT, Nat.reduceBEq, Nat.reduceBNe, Int.reduceLT, Int.reduceLE, Int.reduceEq, Int.reduceNeg, Int.reduceToNat, Int.toNat_natCast, Int.natCast_nonneg, List.length_append, List.length_map, List.length_replicate, Bool.and_eq_true, decide_eq_true_eq, List.length_take, List.length_drop, Int.reduceSub, Int.reduceAdd, Int.reduceMul, Int.sub_zero, Int.add_zero, Int.zero_add, reduceCtorEq, decide_true, decide_false, Bool.false_eq_true, List.reduceReplicate, *] | simp (disch := omega) only [wrap_i64, wrap_u8, Int.tdiv_eq_ediv_of_nonneg, Int.tmod_eq_emod_of_nonneg, if_pos] | refine callP_x ?_ | (refine ret_gen (by first | exact .inr rfl | exact .inl rfl) (rfl) ?_) | (refine guardP_split (fun _ => ?_) (fun _ => ?_)) | (refine condP_split (fun _ => ?_) (fun _ => ?_)) | (refine guardP_splitB (fun _ => ?_) (fun _ => ?_)) | (refine condP_splitB (fun _ => ?_) (fun _ => ?_)))
      all_goals first
        | exact ⟨8 - (j + 1), by omega, j + 1, by omega, rfl, by rw [hsucc, crcBit, if_neg (by omega)], by congr 1; omega⟩
        | exact ⟨8 - (j + 1), by omega, j + 1, by omega, rfl, by rw [hsucc, crcBit, if_pos (by omega)], by congr 1; omega⟩
    · have e : j = 8 := by omega
      subst e
      repeat' (first | simp only [go_sem, ↓reduceIte, Nat.reduceEqDiff, Nat.reduceAdd, Nat.reduceMul, Nat.reduceSub, Nat.reduceLeDiff, Nat.reduceLT, Nat.reduceBEq, Nat.reduceBNe, Int.reduceLT, Int.reduceLE, Int.reduceEq, Int.reduceNeg, Int.reduceToNat, Int.toNat_natCast, Int.natCast_nonneg, List.length_append, List.length_map, List.length_replicate, Bool.and_eq_true, decide_eq_true_eq, List.length_take, List.length_drop, Int.reduceSub, Int.reduceAdd, Int.reduceMul, Int.sub_zero, Int.add_zero, Int.zero_add, reduceCtorEq, decide_true, decide_false, Bool.false_eq_true, List.reduceReplicate, *] | simp (disch := omega) only [wrap_i64, wrap_u8, Int.tdiv_eq_ediv_of_nonneg, Int.tmod_eq_emod_of_nonneg, if_pos] | refine callP_x ?_ | (refine ret_gen (by first | exact .inr rfl | exact .inl rfl) (rfl) ?_) | (refine guardP_split (fun _ => ?_) (fun _ => ?_)) | (refine condP_split (fun _ => ?_) (fun _ => ?_)) | (refine guardP_splitB (fun _ => ?_) (fun _ => ?_)) | (refine condP_splitB (fun _ => ?_) (fun _ => ?_)))
      exact ⟨l.length - (i + 1), by omega, i + 1, by omega, rfl, by rw [crcL_take hlt], by simp only [Int.natCast_add, Int.cast_ofNat_Int]⟩
  · have e : i = l.length := by omega
    subst e
    repeat' (first | simp only [go_sem, ↓reduceIte, Nat.reduceEqDiff, Nat.reduceAdd, Nat.reduceMul, Nat.reduceSub, Nat.reduceLeDiff, Nat.reduceLT, Nat.reduceBEq, Nat.reduceBNe, Int.reduceLT, Int.reduceLE, Int.reduceEq, Int.reduceNeg, Int.reduceToNat, Int.toNat_natCast, Int.natCast_nonneg, List.length_append, List.length_map, List.length_replicate, Bool.and_eq_true, decide_eq_true_eq, List.length_take, List.length_drop, Int.reduceSub, Int.reduceAdd, Int.reduceMul, Int.sub_zero, Int.add_zero, Int.zero_add, reduceCtorEq, decide_true, decide_false, Bool.false_eq_true, List.reduceReplicate, *] | simp (disch := omega) only [wrap_i64, wrap_u8, Int.tdiv_eq_ediv_of_nonneg, Int.tmod_eq_emod_of_nonneg, if_pos] | refine callP_x ?_ | (refine ret_gen (by first | exact .inr rfl | exact .inl rfl) (rfl) ?_) | (refine guardP_split (fun _ => ?_) (fun _ => ?_)) | (refine condP_split (fun _ => ?_) (fun _ => ?_)) | (refine guardP_splitB (fun _ => ?_) (fun _ => ?_)) | (refine condP_splitB (fun _ => ?_) (fun _ => ?_)))
    rw [List.take_length]
theorem sCrc_ac (l : List UInt8) (v : Nat) (hv : v < 65536) (hl : l.length ≤ 4294967296) : AC Try.prog 84 [.str l, .int .i64 (v : Int)] (.int .i64 (crcL v l : Nat)) := by
  refine AC.of_run mo Try.func84 Try.call84 ⟨rfl, Try.ntmps84, Try.results84, by kernel_rfl⟩ rfl ?_
  repeat' (first | simp only [go_sem, ↓reduceIte, Nat.reduceEqDiff, Nat.reduceAdd, Nat.reduceMul, Nat.reduceSub, Nat.reduceLeDiff, Nat.reduceLT, Nat.reduceBEq, Nat.reduceBNe, Int.reduceLT, Int.reduceLE, Int.reduceEq, Int.reduceNeg, Int.reduceToNat, Int.toNat_natCast, Int.natCast_nonneg, List.length_append, List.length_map, List.length_replicate, Bool.and_eq_true, decide_eq_true_eq, List.length_take, List.length_drop, Int.reduceSub, Int.reduceAdd, Int.reduceMul, Int.sub_zero, Int.add_zero, Int.zero_add, reduceCtorEq, decide_true, decide_false, Bool.false_eq_true, List.reduceReplicate, *] | simp (disch := omega) only [wrap_i64, wrap_u8, Int.tdiv_eq_ediv_of_nonneg, Int.tmod_eq_emod_of_nonneg, if_pos] | (refine callP_0 (l00In_ac ..) (rfl) (rfl) ?_) | (refine callP_0 (l01Crc_ac l v hv hl) (rfl) (rfl) ?_) | (refine callX_ac (l00In_ac ..) (rfl) (rfl) ?_) | (refine callX_ac (l01Crc_ac l v hv hl) (rfl) (rfl) ?_) | refine callP_x ?_ | (refine ret_gen (by first | exact .inr rfl | exact .inl rfl) (rfl) ?_) | (refine guardP_split (fun _ => ?_) (fun _ => ?_)) | (refine condP_split (fun _ => ?_) (fun _ => ?_)) | (refine guardP_splitB (fun _ => ?_) (fun _ => ?_)) | (refine condP_splitB (fun _ => ?_) (fun _ => ?_)))
  all_goals omega
end Go.Ab
