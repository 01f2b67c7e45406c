/- The contracts of the functions that read cartridges from files. Conditions: none. -/
import Derived.Test.YtjoomndcdpkplaaDoorCCart
namespace Go.Ab
open Go.RowKit Go.Proofs
set_option maxRecDepth 10000
set_option maxHeartbeats 4000000
set_option linter.unusedSimpArgs false
set_option linter.unusedVariables false
noncomputable section
def trimR (l : List UInt8) : List UInt8 := (l.reverse.dropWhile (· == 32)).reverse
theorem trimR_nil : trimR [] = [] := (rfl)
theorem trimR_sp (l : List UInt8) : trimR (l ++ [32]) = trimR l := by simp [trimR]
theorem trimR_ne (l : List UInt8) {b : UInt8} (h : ¬ b = 32) : trimR (l ++ [b]) = l ++ [b] := by simp [trimR, h]
theorem trimByte_ac (l : List UInt8) (hl : l.length ≤ 1048576) : AC Tryd.prog 43 [.str l, .int .u8 32] (.str (trimR l)) := by
  generalize hT : trimR l = T
  refine AC.of_run mo Tryd.func43 Tryd.call43 ⟨rfl, Tryd.ntmps43, Tryd.results43, by kernel_rfl⟩ rfl ?_
  repeat' (first | simp only [go_sem, ↓reduceIte, Nat.reduceEqDiff, Nat.reduceAdd, Nat.reduceMul, Nat.reduceSub, Nat.reduceLeDiff, Nat.reduceLT, Nat.reduceBEq, Nat.reduceBNe, Int.reduceLT, Int.reduceLE, Int.reduceEq, Int.reduceNeg, Int.reduceToNat, Int.toNat_natCast, Int.natCast_nonneg, List.length_append, List.length_map, List.length_replicate, Bool.and_eq_true, decide_eq_true_eq, List.length_take, List.length_drop, Int.reduceSub, Int.reduceAdd, Int.reduceMul, Int.sub_zero, Int.add_zero, Int.zero_add, reduceCtorEq, decide_true, decide_false, Bool.false_eq_true, List.reduceReplicate, *] | simp (disch := omega) only [wrap_i64, wrap_u8, Int.tdiv_eq_ediv_of_nonneg, Int.tmod_eq_emod_of_nonneg, if_pos] | refine callP_x ?_ | (refine ret_gen (by first | exact .inr rfl | exact .inl rfl) (rfl) ?_) | (refine guardP_split (fun _ => ?_) (fun _ => ?_)) | (refine condP_split (fun _ => ?_) (fun _ => ?_)) | (refine guardP_splitB (fun _ => ?_) (fun _ => ?_)) | (refine condP_splitB (fun _ => ?_) (fun _ => ?_)))
  refine sx_loop (fun m s => ∃ c, m = c.length ∧ c.length ≤ 1048576 ∧ s.τ 0 = .str c ∧ s.τ 1 = .int .u8 32 ∧ trimR c = T) l.length ⟨l, by simp [go_sem, hl, hT]⟩ ?_
  clear hT hl
  rintro m s ⟨c, rfl, hc, t0, t1, ht⟩
  rcases List.eq_nil_or_concat c with rfl | ⟨d, x, rfl⟩
  · rw [trimR_nil] at ht
    subst ht
    repeat' (first | simp only [go_sem, ↓reduceIte, Nat.reduceEqDiff, Nat.reduceAdd, Nat.reduceMul, Nat.reduceSub, Nat.reduceLeDiff, Nat.reduceLT, Nat.reduceBEq, Nat.reduceBNe, Int.reduceLT, Int.reduceLE, Int.reduceEq, Int.reduceNeg, Int.reduceToNat, Int.toNat_natCast, Int.natCast_nonneg, List.length_append, List.length_map, List.length_replicate, Bool.and_eq_true, decide_eq_true_eq, List.length_take, List.length_drop, Int.reduceSub, Int.reduceAdd, Int.reduceMul, Int.sub_zero, Int.add_zero, Int.zero_add, reduceCtorEq, decide_true, decide_false, Bool.false_eq_true, List.reduceReplicate, *] | simp (disch := omega) only [wrap_i64, wrap_u8, Int.tdiv_eq_ediv_of_nonneg, Int.tmod_eq_emod_of_nonneg, if_pos] | refine callP_x ?_ | (refine ret_gen (by first | exact .inr rfl | exact .inl rfl) (rfl) ?_) | (refine guardP_split (fun _ => ?_) (fun _ => ?_)) | (refine condP_split (fun _ => ?_) (fun _ => ?_)) | (refine guardP_splitB (fun _ => ?_) (fun _ => ?_)) | (refine condP_splitB (fun _ => ?_) (fun _ => ?_)))
  · simp only [List.concat_eq_append] at *
    have hg : (d ++ [x])[d.length]? = some x := by simp
    have htk : (d ++ [x]).take d.length = d := by simp
    have e1 : (((d.length + 1 : Nat) : Int) - 1).toNat = d.length := by omega
    have e2 : 0 ≤ ((d.length + 1 : Nat) : Int) - 1 := by omega
    have e3 : ((d.length + 1 : Nat) : Int) - 1 < ((d.length + 1 : Nat) : Int) := by omega
    have e4 : (0 : Int) < ((d.length + 1 : Nat) : Int) := by omega
    have e5 : ((d.length + 1 : Nat) : Int) - 1 ≤ ((d.length + 1 : Nat) : Int) := by omega
    simp only [List.length_append, List.length_cons, List.length_nil, Nat.zero_add] at hc
    by_cases hx : x = 32
    · subst hx
      rw [trimR_sp] at ht
      have h32 : (((32 : UInt8).toNat : Nat) : Int) = 32 := rfl
      repeat' (first | simp only [go_sem, ↓reduceIte, Nat.reduceEqDiff, Nat.reduceAdd, Nat.reduceMul, Nat.reduceSub, Nat.reduceLeDiff, Nat.reduceLT, Nat.reduceBEq, Nat.reduceBNe, Int.reduceLT, Int.reduceLE, Int.reduceEq, Int.reduceNeg, Int.reduceToNat, Int.toNat_natCast, Int.natCast_nonneg, List.length_append, List.length_map, List.length_replicate, Bool.and_eq_true, decide_eq_true_eq, List.length_take, List.length_drop, Int.reduceSub, Int.reduceAdd, Int.reduceMul, Int.sub_zero, Int.add_zero, Int.zero_add, reduceCtorEq, decide_true, decide_false, Bool.false_eq_true, List.reduceReplicate, *] | simp (disch := omega) only [wrap_i64, wrap_u8, Int.tdiv_eq_ediv_of_nonneg, Int.tmod_eq_emod_of_nonneg, if_pos] | refine callP_x ?_ | (refine ret_gen (by first | exact .inr rfl | exact .inl rfl) (rfl) ?_) | (refine guardP_split (fun _ => ?_) (fun _ => ?_)) | (refine condP_split (fun _ => ?_) (fun _ => ?_)) | (refine guardP_splitB (fun _ => ?_) (fun _ => ?_)) | (refine condP_splitB (fun _ => ?_) (fun _ => ?_)))
      exact ⟨d.length, by omega, d, rfl, by omega, rfl, ht⟩
    · rw [trimR_ne d hx] at ht
      subst ht
      have h32 : ¬ ((x.toNat : Nat) : Int) = 32 := fun e => hx (UInt8.toNat_inj.1 (by have : (32 : UInt8).toNat = 32 := rfl; omega))
      repeat' (first | simp only [go_sem, ↓reduceIte, Nat.reduceEqDiff, Nat.reduceAdd, Nat.reduceMul, Nat.reduceSub, Nat.reduceLeDiff, Nat.reduceLT, Nat.reduceBEq, Nat.reduceBNe, Int.reduceLT, Int.reduceLE, Int.reduceEq, Int.reduceNeg, Int.reduceToNat, Int.toNat_natCast, Int.natCast_nonneg, List.length_append, List.length_map, List.length_replicate, Bool.and_eq_true, decide_eq_true_eq, List.length_take, List.length_drop, Int.reduceSub, Int.reduceAdd, Int.reduceMul, Int.sub_zero, Int.add_zero, Int.zero_add, reduceCtorEq, decide_true, decide_false, Bool.false_eq_true, List.reduceReplicate, *] | simp (disch := omega) only [wrap_i64, wrap_u8, Int.tdiv_eq_ediv_of_nonneg, Int.tmod_eq_emod_of_nonneg, if_pos] | refine callP_x ?_ | (refine ret_gen (by first | exact .inr rfl | exact .inl rfl) (rfl) ?_) | (refine guardP_split (fun _ => ?_) (fun _ => ?_)) | (refine condP_split (fun _ => ?_) (fun _ => ?_)) | (refine guardP_splitB (fun _ => ?_) (fun _ => ?_)) | (refine condP_splitB (fun _ => ?_) (fun _ => ?_)))
theorem trimRight_ac (l : List UInt8) (hl : l.length ≤ 1048576) : AC Tryd.prog 26 [.str l, .str [32]] (.str (trimR l)) := by
  have hb := trimByte_ac l hl
  have h32 : (((32 : UInt8).toNat : Nat) : Int) = 32 := rfl
  by_cases h0 : l = []
  · subst h0
    rw [trimR_nil]
    refine AC.of_run mo Tryd.func26 Tryd.call26 ⟨rfl, Tryd.ntmps26, Tryd.results26, by kernel_rfl⟩ rfl ?_
    repeat' (first | simp only [go_sem, ↓reduceIte, Nat.reduceEqDiff, Nat.reduceAdd, Nat.reduceMul, Nat.reduceSub, Nat.reduceLeDiff, Nat.reduceLT, Nat.reduceBEq, Nat.reduceBNe, Int.reduceLT, Int.reduceLE, Int.reduceEq, Int.reduceNeg, Int.reduceToNat, Int.toNat_natCast, Int.natCast_nonneg, List.length_append, List.length_map, List.length_replicate, Bool.and_eq_true, decide_eq_true_eq, List.length_take, List.length_drop, Int.reduceSub, Int.reduceAdd, Int.reduceMul, Int.sub_zero, Int.add_zero, Int.zero_add, reduceCtorEq, decide_true, decide_false, Bool.false_eq_true, List.reduceReplicate, *] | simp (disch := omega) only [wrap_i64, wrap_u8, Int.tdiv_eq_ediv_of_nonneg, Int.tmod_eq_emod_of_nonneg, if_pos] | refine callP_x ?_ | (refine ret_gen (by first | exact .inr rfl | exact .inl rfl) (rfl) ?_) | (refine guardP_split (fun _ => ?_) (fun _ => ?_)) | (refine condP_split (fun _ => ?_) (fun _ => ?_)) | (refine guardP_splitB (fun _ => ?_) (fun _ => ?_)) | (refine condP_splitB (fun _ => ?_) (fun _ => ?_)))
  · have c1 : ((1 : Nat) : Int) = 1 := rfl
    refine AC.of_run mo Tryd.func26 Tryd.call26 ⟨rfl, Tryd.ntmps26, Tryd.results26, by kernel_rfl⟩ rfl ?_
    repeat' (first | simp only [go_sem, ↓reduceIte, Nat.reduceEqDiff, Nat.reduceAdd, Nat.reduceMul, Nat.reduceSub, Nat.reduceLeDiff, Nat.reduceLT, Nat.reduceBEq, Nat.reduceBNe, Int.reduceLT, Int.reduceLE, Int.reduceEq, Int.reduceNeg, Int.reduceToNat, Int.toNat_natCast, Int.natCast_nonneg, List.length_append, List.length_map, List.length_replicate, Bool.and_eq_true, decide_eq_true_eq, List.length_take, List.length_drop, Int.reduceSub, Int.reduceAdd, Int.reduceMul, Int.sub_zero, Int.add_zero, Int.zero_add, reduceCtorEq, decide_true, decide_false, Bool.false_eq_true, List.reduceReplicate, *] | simp (disch := omega) only [wrap_i64, wrap_u8, Int.tdiv_eq_ediv_of_nonneg, Int.tmod_eq_emod_of_nonneg, if_pos] | (refine callP_0 (hb ..) (rfl) (rfl) ?_) | (refine callX_ac (hb ..) (rfl) (rfl) ?_) | refine callP_x ?_ | (refine ret_gen (by first | exact .inr rfl | exact .inl rfl) (rfl) ?_) | (refine guardP_split (fun _ => ?_) (fun _ => ?_)) | (refine condP_split (fun _ => ?_) (fun _ => ?_)) | (refine guardP_splitB (fun _ => ?_) (fun _ => ?_)) | (refine condP_splitB (fun _ => ?_) (fun _ => ?_)))
theorem hasPre_ac (l : List UInt8) : AC Tryd.prog 42 [.str l, .str [67, 65, 82, 84]] (.bool (decide (4 ≤ l.length ∧ l.take 4 = [67, 65, 82, 84]))) := by
  refine AC.of_run mo Tryd.func42 Tryd.call42 ⟨rfl, Tryd.ntmps42, Tryd.results42, by kernel_rfl⟩ rfl ?_
  repeat' (first | simp only [go_sem, ↓reduceIte, Nat.reduceEqDiff, Nat.reduceAdd, Nat.reduceMul, Nat.reduceSub, Nat.reduceLeDiff, Nat.reduceLT, Nat.reduceBEq, Nat.reduceBNe, Int.reduceLT, Int.reduceLE, Int.reduceEq, Int.reduceNeg, Int.reduceToNat, Int.toNat_natCast, Int.natCast_nonneg, List.length_append, List.length_map, List.length_replicate, Bool.and_eq_true, decide_eq_true_eq, List.length_take, List.length_drop, Int.reduceSub, Int.reduceAdd, Int.reduceMul, Int.sub_zero, Int.add_zero, Int.zero_add, reduceCtorEq, decide_true, decide_false, Bool.false_eq_true, List.reduceReplicate, *] | simp (disch := omega) only [wrap_i64, wrap_u8, Int.tdiv_eq_ediv_of_nonneg, Int.tmod_eq_emod_of_nonneg, if_pos] | refine callP_x ?_ | (refine ret_gen (by first | exact .inr rfl | exact .inl rfl) (rfl) ?_) | (refine guardP_split (fun _ => ?_) (fun _ => ?_)) | (refine condP_split (fun _ => ?_) (fun _ => ?_)) | (refine guardP_splitB (fun _ => ?_) (fun _ => ?_)) | (refine condP_splitB (fun _ => ?_) (fun _ => ?_)))
  all_goals (try simp_all)
  all_goals (intros; omega)
theorem hasPrefix_ac (l : List UInt8) : AC Tryd.prog 25 [.str l, .str [67, 65, 82, 84]] (.bool (decide (4 ≤ l.length ∧ l.take 4 = [67, 65, 82, 84]))) := by
  have h := hasPre_ac l
  refine AC.of_run mo Tryd.func25 Tryd.call25 ⟨rfl, Tryd.ntmps25, Tryd.results25, by kernel_rfl⟩ rfl ?_
  repeat' (first | simp only [go_sem, ↓reduceIte, Nat.reduceEqDiff, Nat.reduceAdd, Nat.reduceMul, Nat.reduceSub, Nat.reduceLeDiff, Nat.reduceLT, Nat.reduceBEq, Nat.reduceBNe, Int.reduceLT, Int.reduceLE, Int.reduceEq, Int.reduceNeg, Int.reduceToNat, Int.toNat_natCast, Int.natCast_nonneg, List.length_append, List.length_map, List.length_replicate, Bool.and_eq_true, decide_eq_true_eq, List.length_take, List.length_drop, Int.reduceSub, Int.reduceAdd, Int.reduceMul, Int.sub_zero, Int.add_zero, Int.zero_add, reduceCtorEq, decide_true, decide_false, Bool.false_eq_true, List.reduceReplicate, *] | simp (disch := omega) only [wrap_i64, wrap_u8, Int.tdiv_eq_ediv_of_nonneg, Int.tmod_eq_emod_of_nonneg, if_pos] | (refine callP_0 (h ..) (rfl) (rfl) ?_) | (refine callX_ac (h ..) (rfl) (rfl) ?_) | refine callP_x ?_ | (refine ret_gen (by first | exact .inr rfl | exact .inl rfl) (rfl) ?_) | (refine guardP_split (fun _ => ?_) (fun _ => ?_)) | (refine condP_split (fun _ => ?_) (fun _ => ?_)) | (refine guardP_splitB (fun _ => ?_) (fun _ => ?_)) | (refine condP_splitB (fun _ => ?_) (fun _ => ?_)))
def fileN (l : List UInt8) : Nat := if 16 ≤ l.length then 16 + 64 * (l.getD 4 0).toNat else 0
def rdB (l : List UInt8) (i : Nat) : UInt8 := l.getD i 0
theorem rdB_get {l : List UInt8} {i : Nat} (h : i < l.length) : l[i]? = some (rdB l i) := by simp [rdB, List.getD, List.getElem?_eq_getElem h]
def rdT (l : List UInt8) : List UInt8 := trimR ((l.drop 8).take 8)
def rdP (l : List UInt8) : List UInt8 := l.drop 16
def rdOk (l : List UInt8) : Prop := 16 ≤ l.length ∧ l.take 4 = [67, 65, 82, 84] ∧ l.length = 16 + 64 * (rdB l 4).toNat
def rdBad (c : Int) : AV := .tup [.agg [.str [], .int .i64 0, .str []], .int .i64 c]
def rdSum (l : List UInt8) : Prop := w16 ((sumL (rdP l) % 65536 : Nat) : Int) = (l.drop 6).take 2
instance (l : List UInt8) : Decidable (rdOk l) := by unfold rdOk; infer_instance
instance (l : List UInt8) : Decidable (rdSum l) := by unfold rdSum; infer_instance
def readR (l : List UInt8) : AV :=
  if rdOk l then (if cartOk (rdT l) ((rdB l 5).toNat : Int) (rdP l) then (if rdSum l then .tup [.agg [.str (rdT l), .int .i64 ((rdB l 5).toNat : Int), .str (rdP l)], .int .i64 0] else rdBad 8) else rdBad 7) else rdBad 7
theorem readR_two (l : List UInt8) : ∃ t m p c, readR l = .tup [.agg [.str t, .int .i64 m, .str p], .int .i64 c] := by
  unfold readR rdBad
  split
  · split
    · split
      · exact ⟨_, _, _, _, rfl⟩
      · exact ⟨_, _, _, _, rfl⟩
    · exact ⟨_, _, _, _, rfl⟩
  · exact ⟨_, _, _, _, rfl⟩
theorem iReadCart_ac (l : List UInt8) (hl : l.length ≤ 1048576) : AC Tryd.prog 12 [.str l] (readR l) := by
  have hp := hasPrefix_ac l
  by_cases hok : rdOk l
  · have h16 := hok.1
    have hlen := hok.2.2
    have hpre : decide (4 ≤ l.length ∧ l.take 4 = [67, 65, 82, 84]) = true := decide_eq_true ⟨by omega, hok.2.1⟩
    rw [hpre] at hp
    have g4 := rdB_get (l := l) (i := 4) (by omega)
    have g5 := rdB_get (l := l) (i := 5) (by omega)
    have u4 := (rdB l 4).toNat_lt
    have u5 := (rdB l 5).toNat_lt
    have hti := trimRight_ac ((l.drop 8).take 8) (by simp only [List.length_take]; omega)
    rw [show trimR ((l.drop 8).take 8) = rdT l from rfl] at hti
    have hpl : (rdP l).length = l.length - 16 := by simp [rdP]
    have hv := iValidCart_ac (rdT l) ((rdB l 5).toNat : Int) (rdP l) (by omega)
    have hsum := iSum16_ac (rdP l) (by omega)
    have hsm : sumL (rdP l) % 65536 < 65536 := Nat.mod_lt _ (by decide)
    have hw := iPutWord_ac ((sumL (rdP l) % 65536 : Nat) : Int) (by omega)
    have htk : (l.drop 16).take (l.length - 16) = rdP l := List.take_of_length_le (by simp)
    have htk2 : (((l.length : Int) - 16)).toNat = l.length - 16 := by omega
    have hle2 : (16 : Int) + 64 * ((rdB l 4).toNat : Int) = (l.length : Int) := by omega
    clear hlen
    by_cases hc : cartOk (rdT l) ((rdB l 5).toNat : Int) (rdP l)
    · rw [decide_eq_true hc] at hv
      by_cases hs : rdSum l
      · have hs' : w16 ((sumL (rdP l) % 65536 : Nat) : Int) = (l.drop 6).take 2 := hs
        have hR : readR l = .tup [.agg [.str (rdT l), .int .i64 ((rdB l 5).toNat : Int), .str (rdP l)], .int .i64 0] := by unfold readR; rw [if_pos hok, if_pos hc, if_pos hs]
        rw [hR]
        clear hc hR
        refine AC.of_run mo Tryd.func12 Tryd.call12 ⟨rfl, Tryd.ntmps12, Tryd.results12, by kernel_rfl⟩ rfl ?_
        repeat' (first | simp only [go_sem, ↓reduceIte, Nat.reduceEqDiff, Nat.reduceAdd, Nat.reduceMul, Nat.reduceSub, Nat.reduceLeDiff, Nat.reduceLT, Nat.reduceBEq, Nat.reduceBNe, Int.reduceLT, Int.reduceLE, Int.reduceEq, Int.reduceNeg, Int.reduceToNat, Int.toNat_natCast, Int.natCast_nonneg, List.length_append, List.length_map, List.length_replicate, Bool.and_eq_true, decide_eq_true_eq, List.length_take, List.length_drop, Int.reduceSub, Int.reduceAdd, Int.reduceMul, Int.sub_zero, Int.add_zero, Int.zero_add, reduceCtorEq, decide_true, decide_false, Bool.false_eq_true, List.reduceReplicate, *] | simp (disch := omega) only [wrap_i64, wrap_u8, Int.tdiv_eq_ediv_of_nonneg, Int.tmod_eq_emod_of_nonneg, if_pos] | (refine callP_0 (hp ..) (rfl) (rfl) ?_) | (refine callP_0 (hti ..) (rfl) (rfl) ?_) | (refine callP_0 (hv ..) (rfl) (rfl) ?_) | (refine callP_0 (hsum ..) (rfl) (rfl) ?_) | (refine callP_0 (hw ..) (rfl) (rfl) ?_) | (refine callX_ac (hp ..) (rfl) (rfl) ?_) | (refine callX_ac (hti ..) (rfl) (rfl) ?_) | (refine callX_ac (hv ..) (rfl) (rfl) ?_) | (refine callX_ac (hsum ..) (rfl) (rfl) ?_) | (refine callX_ac (hw ..) (rfl) (rfl) ?_) | refine callP_x ?_ | (refine ret_gen (by first | exact .inr rfl | exact .inl rfl) (rfl) ?_) | (refine guardP_split (fun _ => ?_) (fun _ => ?_)) | (refine condP_split (fun _ => ?_) (fun _ => ?_)) | (refine guardP_splitB (fun _ => ?_) (fun _ => ?_)) | (refine condP_splitB (fun _ => ?_) (fun _ => ?_)))
        all_goals omega
      · have hs' : ¬ w16 ((sumL (rdP l) % 65536 : Nat) : Int) = (l.drop 6).take 2 := hs
        have hR : readR l = rdBad 8 := by unfold readR; rw [if_pos hok, if_pos hc, if_neg hs]
        rw [hR, rdBad]
        clear hc hR
        refine AC.of_run mo Tryd.func12 Tryd.call12 ⟨rfl, Tryd.ntmps12, Tryd.results12, by kernel_rfl⟩ rfl ?_
        repeat' (first | simp only [go_sem, ↓reduceIte, Nat.reduceEqDiff, Nat.reduceAdd, Nat.reduceMul, Nat.reduceSub, Nat.reduceLeDiff, Nat.reduceLT, Nat.reduceBEq, Nat.reduceBNe, Int.reduceLT, Int.reduceLE, Int.reduceEq, Int.reduceNeg, Int.reduceToNat, Int.toNat_natCast, Int.natCast_nonneg, List.length_append, List.length_map, List.length_replicate, Bool.and_eq_true, decide_eq_true_eq, List.length_take, List.length_drop, Int.reduceSub, Int.reduceAdd, Int.reduceMul, Int.sub_zero, Int.add_zero, Int.zero_add, reduceCtorEq, decide_true, decide_false, Bool.false_eq_true, List.reduceReplicate, *] | simp (disch := omega) only [wrap_i64, wrap_u8, Int.tdiv_eq_ediv_of_nonneg, Int.tmod_eq_emod_of_nonneg, if_pos] | (refine callP_0 (hp ..) (rfl) (rfl) ?_) | (refine callP_0 (hti ..) (rfl) (rfl) ?_) | (refine callP_0 (hv ..) (rfl) (rfl) ?_) | (refine callP_0 (hsum ..) (rfl) (rfl) ?_) | (refine callP_0 (hw ..) (rfl) (rfl) ?_) | (refine callX_ac (hp ..) (rfl) (rfl) ?_) | (refine callX_ac (hti ..) (rfl) (rfl) ?_) | (refine callX_ac (hv ..) (rfl) (rfl) ?_) | (refine callX_ac (hsum ..) (rfl) (rfl) ?_) | (refine callX_ac (hw ..) (rfl) (rfl) ?_) | refine callP_x ?_ | (refine ret_gen (by first | exact .inr rfl | exact .inl rfl) (rfl) ?_) | (refine guardP_split (fun _ => ?_) (fun _ => ?_)) | (refine condP_split (fun _ => ?_) (fun _ => ?_)) | (refine guardP_splitB (fun _ => ?_) (fun _ => ?_)) | (refine condP_splitB (fun _ => ?_) (fun _ => ?_)))
        all_goals omega
    · rw [decide_eq_false hc] at hv
      have hR : readR l = rdBad 7 := by unfold readR; rw [if_pos hok, if_neg hc]
      rw [hR, rdBad]
      clear hc hR
      refine AC.of_run mo Tryd.func12 Tryd.call12 ⟨rfl, Tryd.ntmps12, Tryd.results12, by kernel_rfl⟩ rfl ?_
      repeat' (first | simp only [go_sem, ↓reduceIte, Nat.reduceEqDiff, Nat.reduceAdd, Nat.reduceMul, Nat.reduceSub, Nat.reduceLeDiff, Nat.reduceLT, Nat.reduceBEq, Nat.reduceBNe, Int.reduceLT, Int.reduceLE, Int.reduceEq, Int.reduceNeg, Int.reduceToNat, Int.toNat_natCast, Int.natCast_nonneg, List.length_append, List.length_map, List.length_replicate, Bool.and_eq_true, decide_eq_true_eq, List.length_take, List.length_drop, Int.reduceSub, Int.reduceAdd, Int.reduceMul, Int.sub_zero, Int.add_zero, Int.zero_add, reduceCtorEq, decide_true, decide_false, Bool.false_eq_true, List.reduceReplicate, *] | simp (disch := omega) only [wrap_i64, wrap_u8, Int.tdiv_eq_ediv_of_nonneg, Int.tmod_eq_emod_of_nonneg, if_pos] | (refine callP_0 (hp ..) (rfl) (rfl) ?_) | (refine callP_0 (hti ..) (rfl) (rfl) ?_) | (refine callP_0 (hv ..) (rfl) (rfl) ?_) | (refine callX_ac (hp ..) (rfl) (rfl) ?_) | (refine callX_ac (hti ..) (rfl) (rfl) ?_) | (refine callX_ac (hv ..) (rfl) (rfl) ?_) | refine callP_x ?_ | (refine ret_gen (by first | exact .inr rfl | exact .inl rfl) (rfl) ?_) | (refine guardP_split (fun _ => ?_) (fun _ => ?_)) | (refine condP_split (fun _ => ?_) (fun _ => ?_)) | (refine guardP_splitB (fun _ => ?_) (fun _ => ?_)) | (refine condP_splitB (fun _ => ?_) (fun _ => ?_)))
      all_goals omega
  · have hR : readR l = rdBad 7 := by unfold readR; rw [if_neg hok]
    rw [hR, rdBad]
    by_cases h16 : 16 ≤ l.length
    · have g4 := rdB_get (l := l) (i := 4) (by omega)
      have u4 := (rdB l 4).toNat_lt
      refine AC.of_run mo Tryd.func12 Tryd.call12 ⟨rfl, Tryd.ntmps12, Tryd.results12, by kernel_rfl⟩ rfl ?_
      repeat' (first | simp only [go_sem, ↓reduceIte, Nat.reduceEqDiff, Nat.reduceAdd, Nat.reduceMul, Nat.reduceSub, Nat.reduceLeDiff, Nat.reduceLT, Nat.reduceBEq, Nat.reduceBNe, Int.reduceLT, Int.reduceLE, Int.reduceEq, Int.reduceNeg, Int.reduceToNat, Int.toNat_natCast, Int.natCast_nonneg, List.length_append, List.length_map, List.length_replicate, Bool.and_eq_true, decide_eq_true_eq, List.length_take, List.length_drop, Int.reduceSub, Int.reduceAdd, Int.reduceMul, Int.sub_zero, Int.add_zero, Int.zero_add, reduceCtorEq, decide_true, decide_false, Bool.false_eq_true, List.reduceReplicate, *] | simp (disch := omega) only [wrap_i64, wrap_u8, Int.tdiv_eq_ediv_of_nonneg, Int.tmod_eq_emod_of_nonneg, if_pos] | (refine callP_0 (hp ..) (rfl) (rfl) ?_) | (refine callX_ac (hp ..) (rfl) (rfl) ?_) | refine callP_x ?_ | (refine ret_gen (by first | exact .inr rfl | exact .inl rfl) (rfl) ?_) | (refine guardP_split (fun _ => ?_) (fun _ => ?_)) | (refine condP_split (fun _ => ?_) (fun _ => ?_)) | (refine guardP_splitB (fun _ => ?_) (fun _ => ?_)) | (refine condP_splitB (fun _ => ?_) (fun _ => ?_)))
      all_goals (exfalso; exact hok ⟨by omega, by simp_all, by omega⟩)
    · refine AC.of_run mo Tryd.func12 Tryd.call12 ⟨rfl, Tryd.ntmps12, Tryd.results12, by kernel_rfl⟩ rfl ?_
      repeat' (first | simp only [go_sem, ↓reduceIte, Nat.reduceEqDiff, Nat.reduceAdd, Nat.reduceMul, Nat.reduceSub, Nat.reduceLeDiff, Nat.reduceLT, Nat.reduceBEq, Nat.reduceBNe, Int.reduceLT, Int.reduceLE, Int.reduceEq, Int.reduceNeg, Int.reduceToNat, Int.toNat_natCast, Int.natCast_nonneg, List.length_append, List.length_map, List.length_replicate, Bool.and_eq_true, decide_eq_true_eq, List.length_take, List.length_drop, Int.reduceSub, Int.reduceAdd, Int.reduceMul, Int.sub_zero, Int.add_zero, Int.zero_add, reduceCtorEq, decide_true, decide_false, Bool.false_eq_true, List.reduceReplicate, *] | simp (disch := omega) only [wrap_i64, wrap_u8, Int.tdiv_eq_ediv_of_nonneg, Int.tmod_eq_emod_of_nonneg, if_pos] | (refine callP_0 (hp ..) (rfl) (rfl) ?_) | (refine callX_ac (hp ..) (rfl) (rfl) ?_) | refine callP_x ?_ | (refine ret_gen (by first | exact .inr rfl | exact .inl rfl) (rfl) ?_) | (refine guardP_split (fun _ => ?_) (fun _ => ?_)) | (refine condP_split (fun _ => ?_) (fun _ => ?_)) | (refine guardP_splitB (fun _ => ?_) (fun _ => ?_)) | (refine condP_splitB (fun _ => ?_) (fun _ => ?_)))
      all_goals omega
end
end Go.Ab
