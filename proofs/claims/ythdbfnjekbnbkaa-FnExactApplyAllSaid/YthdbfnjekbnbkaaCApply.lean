/- The contracts of the functions that apply patches. Conditions: none. -/
import Derived.Test.YthdbfnjekbnbkaaCVPatch
import Derived.Test.YthdbfnjekbnbkaaCCrc
namespace Go.Ab
open Go.RowKit Go.Proofs
set_option maxRecDepth 10000
set_option maxHeartbeats 4000000
set_option linter.unusedSimpArgs false
set_option linter.unusedVariables false
noncomputable section
attribute [local go_sem] hunkV_eq
def wrL (l : List UInt8) (pos : Nat) (n : List UInt8) : List UInt8 := l.take pos ++ n ++ l.drop (pos + n.length)
theorem wrL_len {l : List UInt8} {pos : Nat} {n : List UInt8} (h : pos + n.length ≤ l.length) : (wrL l pos n).length = l.length := by
  simp only [wrL, List.length_append, List.length_take, List.length_drop]; omega
theorem wrL_take {l : List UInt8} {pos : Nat} {n : List UInt8} {t : Nat} (h : pos + n.length ≤ t) : (wrL l pos n).take t = wrL (l.take t) pos n := by
  refine List.ext_getElem? fun i => ?_
  simp only [wrL, List.getElem?_take, List.getElem?_append, List.length_append, List.length_take, List.getElem?_drop]
  grind
theorem wrL_bytes (l : List UInt8) (pos : Nat) (n : List UInt8) : (bytesA l).take pos ++ bytesA n ++ (bytesA l).drop (pos + n.length) = bytesA (wrL l pos n) := by
  simp only [bytesA, wrL, List.map_append, List.map_take, List.map_drop]
def extS (s : List UInt8) (t : Nat) : List UInt8 := s ++ List.replicate (t - s.length) 0
def extTo (p : PatchD) (s : List UInt8) : Nat → List UInt8
  | 0 => extS s p.dst.toNat
  | i + 1 => wrL (extTo p s i) (hk p i).pos.toNat (hk p i).new
def appTo (p : PatchD) (s : List UInt8) (i : Nat) : List UInt8 := (extTo p s i).take p.dst.toNat
theorem new_in {p : PatchD} (h : patchOk p) {i : Nat} (hi : i < p.hunks.length) : 0 ≤ (hk p i).pos ∧ (hk p i).pos ≤ 511 ∧ (hk p i).pos + (hk p i).old.length ≤ p.src ∧ (hk p i).pos + (hk p i).new.length ≤ p.dst := by
  have := (h.2.1 i hi).1
  exact ⟨this.1.1, this.1.2, this.2.2.1, this.2.2.2.1⟩
theorem extTo_len {p : PatchD} (h : patchOk p) (s : List UInt8) : ∀ i, i ≤ p.hunks.length → (extTo p s i).length = max s.length p.dst.toNat
  | 0, _ => by simp only [extTo, extS, List.length_append, List.length_replicate]; omega
  | i + 1, hi => by
    have h1 := extTo_len h s i (by omega)
    have h2 := new_in h (i := i) (by omega)
    simp only [extTo]
    rw [wrL_len (by omega), h1]
theorem appTo_len {p : PatchD} (h : patchOk p) (s : List UInt8) {i : Nat} (hi : i ≤ p.hunks.length) : (appTo p s i).length = p.dst.toNat := by
  unfold appTo
  rw [List.length_take, extTo_len h s i hi]; omega
theorem appTo_succ {p : PatchD} (h : patchOk p) (s : List UInt8) {i : Nat} (hi : i < p.hunks.length) : appTo p s (i + 1) = wrL (appTo p s i) (hk p i).pos.toNat (hk p i).new := by
  have h2 := new_in h hi
  unfold appTo
  rw [extTo, wrL_take (by omega)]
def hit (s : List UInt8) (h : HunkD) : Prop := (s.drop h.pos.toNat).take h.old.length = h.old
theorem hit_succ {p : PatchD} {s : List UInt8} {i : Nat} (h : ∀ j, j < i → hit s (hk p j)) (hi : hit s (hk p i)) : ∀ j, j < i + 1 → hit s (hk p j) := fun j hj => by
  by_cases e : j = i
  · subst e; exact hi
  · exact h j (by omega)
noncomputable instance (p : PatchD) (s : List UInt8) : Decidable (∀ j, j < p.hunks.length → hit s (hk p j)) := Classical.propDecidable _
def appR (p : PatchD) (s : List UInt8) : AV :=
  if patchOk p then
    (if (s.length : Int) = p.src ∧ ((crcL 65535 s : Nat) : Int) = p.sumFrom then
      (if ∀ j, j < p.hunks.length → hit s (hk p j) then
        (if ((crcL 65535 (appTo p s p.hunks.length) : Nat) : Int) = p.sumTo then .tup [.str (appTo p s p.hunks.length), .int .i64 0] else .tup [.str [], .int .i64 8])
      else .tup [.str [], .int .i64 6])
    else .tup [.str [], .int .i64 6])
  else .tup [.str [], .int .i64 1]
theorem init_app {p : PatchD} (s : List UInt8) : (bytesA s).take (min s.length p.dst.toNat) ++ (List.replicate p.dst.toNat (AV.int .u8 0)).drop (min s.length p.dst.toNat) = bytesA (appTo p s 0) := by
  have e : List.replicate p.dst.toNat (AV.int .u8 0) = bytesA (List.replicate p.dst.toNat 0) := by simp [bytesA]
  rw [e]
  simp only [bytesA, appTo, extTo, extS, ← List.map_take, ← List.map_drop, ← List.map_append]
  congr 1
  rw [List.take_append, List.drop_replicate, List.take_replicate]
  by_cases h : s.length ≤ p.dst.toNat
  · rw [Nat.min_eq_left h, List.take_of_length_le (Nat.le_refl _), List.take_of_length_le h, Nat.min_eq_left (by omega)]
  · rw [Nat.min_eq_right (by omega), show p.dst.toNat - s.length = 0 by omega, Nat.sub_self]
    simp
theorem appR_bad {p : PatchD} {s : List UInt8} (h : ¬ patchOk p) : appR p s = .tup [.str [], .int .i64 1] := by unfold appR; rw [if_neg h]
theorem appR_src {p : PatchD} {s : List UInt8} (h : patchOk p) (h2 : ¬ ((s.length : Int) = p.src ∧ ((crcL 65535 s : Nat) : Int) = p.sumFrom)) : appR p s = .tup [.str [], .int .i64 6] := by unfold appR; rw [if_pos h, if_neg h2]
theorem appR_miss {p : PatchD} {s : List UInt8} (h : patchOk p) (h2 : (s.length : Int) = p.src ∧ ((crcL 65535 s : Nat) : Int) = p.sumFrom) {j : Nat} (hj : j < p.hunks.length) (hm : ¬ hit s (hk p j)) : appR p s = .tup [.str [], .int .i64 6] := by
  unfold appR; rw [if_pos h, if_pos h2, if_neg fun hh => hm (hh j hj)]
theorem appR_sum {p : PatchD} {s : List UInt8} (h : patchOk p) (h2 : (s.length : Int) = p.src ∧ ((crcL 65535 s : Nat) : Int) = p.sumFrom) (h3 : ∀ j, j < p.hunks.length → hit s (hk p j)) (h4 : ¬ ((crcL 65535 (appTo p s p.hunks.length) : Nat) : Int) = p.sumTo) : appR p s = .tup [.str [], .int .i64 8] := by
  unfold appR; rw [if_pos h, if_pos h2, if_pos h3, if_neg h4]
theorem appR_ok {p : PatchD} {s : List UInt8} (h : patchOk p) (h2 : (s.length : Int) = p.src ∧ ((crcL 65535 s : Nat) : Int) = p.sumFrom) (h3 : ∀ j, j < p.hunks.length → hit s (hk p j)) (h4 : ((crcL 65535 (appTo p s p.hunks.length) : Nat) : Int) = p.sumTo) : appR p s = .tup [.str (appTo p s p.hunks.length), .int .i64 0] := by
  unfold appR; rw [if_pos h, if_pos h2, if_pos h3, if_pos h4]
theorem iApplyPatch_ac (p : PatchD) (b : List UInt8) (hb : b.length ≤ 1048576) (hs : ∀ h ∈ p.hunks, h.old.length ≤ 1048576 ∧ h.new.length ≤ 1048576) : AC Try.prog 13 [patchV p, .str b] (appR p b) := by
  have hv := iValidPatch_ac p hs
  have hcr := iCrc_ac b 65535 (by decide) (by omega)
  have c3 : ((65535 : Nat) : Int) = 65535 := rfl
  rw [c3] at hcr
  by_cases hok : patchOk p
  · rw [decide_eq_true hok] at hv
    by_cases hsrc : (b.length : Int) = p.src ∧ ((crcL 65535 b : Nat) : Int) = p.sumFrom
    · have hsr1 := hsrc.1
      have hsr2 := hsrc.2
      have hd := hok.1.2.1
      have hh := hok.1.2.2.2.2
      have hsr3 : (decide ((b.length : Int) = p.src)) = true := decide_eq_true hsr1
      have hsr4 : (decide (((crcL 65535 b : Nat) : Int) = p.sumFrom)) = true := decide_eq_true hsr2
      have hin := init_app (p := p) b
      generalize hR : appR p b = R
      simp only [patchV_eq] at hv ⊢
      refine AC.of_run mo Try.func13 Try.call13 ⟨rfl, Try.ntmps13, Try.results13, by kernel_rfl⟩ rfl ?_
      repeat' (first | simp only [go_sem, ↓reduceIte, Nat.reduceEqDiff, Nat.reduceAdd, Nat.reduceMul, Nat.reduceSub, Nat.reduceLeDiff, Nat.reduceLT, Nat.reduceBEq, Nat.reduceBNe, Int.reduceLT, Int.reduceLE, Int.reduceEq, Int.reduceNeg, Int.reduceToNat, Int.toNat_natCast, Int.natCast_nonneg, List.length_append, List.length_map, List.length_replicate, Bool.and_eq_true, decide_eq_true_eq, List.length_take, List.length_drop, Int.reduceSub, Int.reduceAdd, Int.reduceMul, Int.sub_zero, Int.add_zero, Int.zero_add, reduceCtorEq, decide_true, decide_false, Bool.false_eq_true, List.reduceReplicate, *] | simp (disch := omega) only [wrap_i64, wrap_u8, Int.tdiv_eq_ediv_of_nonneg, Int.tmod_eq_emod_of_nonneg, if_pos] | (refine callP_0 (hv ..) (rfl) (rfl) ?_) | (refine callP_0 (hcr ..) (rfl) (rfl) ?_) | (refine callX_ac (hv ..) (rfl) (rfl) ?_) | (refine callX_ac (hcr ..) (rfl) (rfl) ?_) | refine callP_x ?_ | (refine ret_gen (by first | exact .inr rfl | exact .inl rfl) (rfl) ?_) | (refine guardP_split (fun _ => ?_) (fun _ => ?_)) | (refine condP_split (fun _ => ?_) (fun _ => ?_)) | (refine guardP_splitB (fun _ => ?_) (fun _ => ?_)) | (refine condP_splitB (fun _ => ?_) (fun _ => ?_)))
      refine sx_loop (fun m s => ∃ i, i ≤ p.hunks.length ∧ m = p.hunks.length - i ∧ s.τ 1 = .str b ∧ s.τ 2 = .ptr 0 0 0 0 ∧ s.τ 6 = .ref 5002 0 0 p.dst.toNat ∧ s.τ 31 = .lst (p.hunks.map hunkV) ∧ s.τ 32 = .int .i64 p.hunks.length ∧ s.τ 33 = .int .i64 (i : Int) ∧ s.nx = 0 ∧ (∀ j, j < i → hit b (hk p j)) ∧
        s.H 0 = some ⟨5, [patchV p], 0, true⟩ ∧ s.H 5002 = some ⟨1, bytesA (appTo p b i), 0, true⟩) p.hunks.length ⟨0, by simp [go_sem, patchV_eq, ← hin, hsr1]⟩ ?_
      rintro m s ⟨i, hi, rfl, t1, t2, t6, t31, t32, t33, hnx, hhit, hH0, hH⟩
      simp only [patchV_eq] at hH0
      clear hin
      simp only [go_sem, ↓reduceIte, Nat.reduceEqDiff, Nat.reduceAdd, Nat.reduceMul, Nat.reduceSub, Nat.reduceLeDiff, Nat.reduceLT, Nat.reduceBEq, Nat.reduceBNe, Int.reduceLT, Int.reduceLE, Int.reduceEq, Int.reduceNeg, Int.reduceToNat, Int.toNat_natCast, Int.natCast_nonneg, List.length_append, List.length_map, List.length_replicate, Bool.and_eq_true, decide_eq_true_eq, List.length_take, List.length_drop, Int.reduceSub, Int.reduceAdd, Int.reduceMul, Int.sub_zero, Int.add_zero, Int.zero_add, reduceCtorEq, decide_true, decide_false, Bool.false_eq_true, List.reduceReplicate, t1, t2, t6, t31, t32, t33, hnx, hH0]
      refine condP_split (fun hc => ?_) (fun hc => ?_)
      · have hlt : i < p.hunks.length := by omega
        have hg := hk_map hlt
        have hsz := hk_mem hlt hs
        have hni := new_in hok hlt
        have hal := appTo_len hok b (i := i) (by omega)
        have hsu := appTo_succ hok b hlt
        have hwb := wrL_bytes (appTo p b i) (hk p i).pos.toNat (hk p i).new
        have e1 : ((hk p i).pos + (hk p i).old.length - (hk p i).pos).toNat = (hk p i).old.length := by omega
        have e2 : p.dst.toNat - (hk p i).pos.toNat + (hk p i).pos.toNat = p.dst.toNat := by omega
        have e3 : (hk p i).pos.toNat + (p.dst.toNat - (hk p i).pos.toNat) = p.dst.toNat := by omega
        have e4 : min (hk p i).new.length (p.dst.toNat - (hk p i).pos.toNat) = (hk p i).new.length := by omega
        have e5 := bytesA_take (hk p i).new
        by_cases hm : hit b (hk p i)
        · have hm' := hm
          unfold hit at hm'
          repeat' (first | simp only [go_sem, ↓reduceIte, Nat.reduceEqDiff, Nat.reduceAdd, Nat.reduceMul, Nat.reduceSub, Nat.reduceLeDiff, Nat.reduceLT, Nat.reduceBEq, Nat.reduceBNe, Int.reduceLT, Int.reduceLE, Int.reduceEq, Int.reduceNeg, Int.reduceToNat, Int.toNat_natCast, Int.natCast_nonneg, List.length_append, List.length_map, List.length_replicate, Bool.and_eq_true, decide_eq_true_eq, List.length_take, List.length_drop, Int.reduceSub, Int.reduceAdd, Int.reduceMul, Int.sub_zero, Int.add_zero, Int.zero_add, reduceCtorEq, decide_true, decide_false, Bool.false_eq_true, List.reduceReplicate, *] | simp (disch := omega) only [wrap_i64, wrap_u8, Int.tdiv_eq_ediv_of_nonneg, Int.tmod_eq_emod_of_nonneg, if_pos] | refine callP_x ?_ | (refine ret_gen (by first | exact .inr rfl | exact .inl rfl) (rfl) ?_) | (refine guardP_split (fun _ => ?_) (fun _ => ?_)) | (refine condP_split (fun _ => ?_) (fun _ => ?_)) | (refine guardP_splitB (fun _ => ?_) (fun _ => ?_)) | (refine condP_splitB (fun _ => ?_) (fun _ => ?_)))
          have e6 : min (hk p i).new.length ((p.dst.toNat : Int) - (hk p i).pos).toNat = (hk p i).new.length := by omega
          rw [e6, e5, hwb, ← hsu]
          exact ⟨p.hunks.length - (i + 1), by omega, i + 1, by omega, rfl, by simp only [Int.natCast_add, Int.cast_ofNat_Int], hit_succ hhit hm, by simp only [patchV_eq], rfl⟩
        · have hm' : ¬ ((b.drop (hk p i).pos.toNat).take (hk p i).old.length = (hk p i).old) := hm
          have hr := appR_miss hok hsrc hlt hm
          rw [hR] at hr
          subst hr
          repeat' (first | simp only [go_sem, ↓reduceIte, Nat.reduceEqDiff, Nat.reduceAdd, Nat.reduceMul, Nat.reduceSub, Nat.reduceLeDiff, Nat.reduceLT, Nat.reduceBEq, Nat.reduceBNe, Int.reduceLT, Int.reduceLE, Int.reduceEq, Int.reduceNeg, Int.reduceToNat, Int.toNat_natCast, Int.natCast_nonneg, List.length_append, List.length_map, List.length_replicate, Bool.and_eq_true, decide_eq_true_eq, List.length_take, List.length_drop, Int.reduceSub, Int.reduceAdd, Int.reduceMul, Int.sub_zero, Int.add_zero, Int.zero_add, reduceCtorEq, decide_true, decide_false, Bool.false_eq_true, List.reduceReplicate, *] | simp (disch := omega) only [wrap_i64, wrap_u8, Int.tdiv_eq_ediv_of_nonneg, Int.tmod_eq_emod_of_nonneg, if_pos] | refine callP_x ?_ | (refine ret_gen (by first | exact .inr rfl | exact .inl rfl) (rfl) ?_) | (refine guardP_split (fun _ => ?_) (fun _ => ?_)) | (refine condP_split (fun _ => ?_) (fun _ => ?_)) | (refine guardP_splitB (fun _ => ?_) (fun _ => ?_)) | (refine condP_splitB (fun _ => ?_) (fun _ => ?_)))
      · have e : i = p.hunks.length := by omega
        subst e
        have hal := appTo_len hok b (i := p.hunks.length) (by omega)
        have hcr2 := iCrc_ac (appTo p b p.hunks.length) 65535 (by decide) (by omega)
        rw [c3] at hcr2
        have htk : (bytesA (appTo p b p.hunks.length)).take p.dst.toNat = bytesA (appTo p b p.hunks.length) := by rw [← hal]; exact bytesA_take _
        by_cases hsm : ((crcL 65535 (appTo p b p.hunks.length) : Nat) : Int) = p.sumTo
        · have hr := appR_ok hok hsrc hhit hsm
          rw [hR] at hr
          subst hr
          clear hR
          repeat' (first | simp only [go_sem, ↓reduceIte, Nat.reduceEqDiff, Nat.reduceAdd, Nat.reduceMul, Nat.reduceSub, Nat.reduceLeDiff, Nat.reduceLT, Nat.reduceBEq, Nat.reduceBNe, Int.reduceLT, Int.reduceLE, Int.reduceEq, Int.reduceNeg, Int.reduceToNat, Int.toNat_natCast, Int.natCast_nonneg, List.length_append, List.length_map, List.length_replicate, Bool.and_eq_true, decide_eq_true_eq, List.length_take, List.length_drop, Int.reduceSub, Int.reduceAdd, Int.reduceMul, Int.sub_zero, Int.add_zero, Int.zero_add, reduceCtorEq, decide_true, decide_false, Bool.false_eq_true, List.reduceReplicate, *] | simp (disch := omega) only [wrap_i64, wrap_u8, Int.tdiv_eq_ediv_of_nonneg, Int.tmod_eq_emod_of_nonneg, if_pos] | (refine callP_0 (hcr2 ..) (rfl) (rfl) ?_) | (refine callX_ac (hcr2 ..) (rfl) (rfl) ?_) | refine callP_x ?_ | (refine ret_gen (by first | exact .inr rfl | exact .inl rfl) (rfl) ?_) | (refine guardP_split (fun _ => ?_) (fun _ => ?_)) | (refine condP_split (fun _ => ?_) (fun _ => ?_)) | (refine guardP_splitB (fun _ => ?_) (fun _ => ?_)) | (refine condP_splitB (fun _ => ?_) (fun _ => ?_)))
        · have hr := appR_sum hok hsrc hhit hsm
          rw [hR] at hr
          subst hr
          clear hR
          repeat' (first | simp only [go_sem, ↓reduceIte, Nat.reduceEqDiff, Nat.reduceAdd, Nat.reduceMul, Nat.reduceSub, Nat.reduceLeDiff, Nat.reduceLT, Nat.reduceBEq, Nat.reduceBNe, Int.reduceLT, Int.reduceLE, Int.reduceEq, Int.reduceNeg, Int.reduceToNat, Int.toNat_natCast, Int.natCast_nonneg, List.length_append, List.length_map, List.length_replicate, Bool.and_eq_true, decide_eq_true_eq, List.length_take, List.length_drop, Int.reduceSub, Int.reduceAdd, Int.reduceMul, Int.sub_zero, Int.add_zero, Int.zero_add, reduceCtorEq, decide_true, decide_false, Bool.false_eq_true, List.reduceReplicate, *] | simp (disch := omega) only [wrap_i64, wrap_u8, Int.tdiv_eq_ediv_of_nonneg, Int.tmod_eq_emod_of_nonneg, if_pos] | (refine callP_0 (hcr2 ..) (rfl) (rfl) ?_) | (refine callX_ac (hcr2 ..) (rfl) (rfl) ?_) | refine callP_x ?_ | (refine ret_gen (by first | exact .inr rfl | exact .inl rfl) (rfl) ?_) | (refine guardP_split (fun _ => ?_) (fun _ => ?_)) | (refine condP_split (fun _ => ?_) (fun _ => ?_)) | (refine guardP_splitB (fun _ => ?_) (fun _ => ?_)) | (refine condP_splitB (fun _ => ?_) (fun _ => ?_)))
    · rw [appR_src hok hsrc]
      simp only [patchV_eq] at hv ⊢
      refine AC.of_run mo Try.func13 Try.call13 ⟨rfl, Try.ntmps13, Try.results13, by kernel_rfl⟩ rfl ?_
      repeat' (first | simp only [go_sem, ↓reduceIte, Nat.reduceEqDiff, Nat.reduceAdd, Nat.reduceMul, Nat.reduceSub, Nat.reduceLeDiff, Nat.reduceLT, Nat.reduceBEq, Nat.reduceBNe, Int.reduceLT, Int.reduceLE, Int.reduceEq, Int.reduceNeg, Int.reduceToNat, Int.toNat_natCast, Int.natCast_nonneg, List.length_append, List.length_map, List.length_replicate, Bool.and_eq_true, decide_eq_true_eq, List.length_take, List.length_drop, Int.reduceSub, Int.reduceAdd, Int.reduceMul, Int.sub_zero, Int.add_zero, Int.zero_add, reduceCtorEq, decide_true, decide_false, Bool.false_eq_true, List.reduceReplicate, *] | simp (disch := omega) only [wrap_i64, wrap_u8, Int.tdiv_eq_ediv_of_nonneg, Int.tmod_eq_emod_of_nonneg, if_pos] | (refine callP_0 (hv ..) (rfl) (rfl) ?_) | (refine callP_0 (hcr ..) (rfl) (rfl) ?_) | (refine callX_ac (hv ..) (rfl) (rfl) ?_) | (refine callX_ac (hcr ..) (rfl) (rfl) ?_) | refine callP_x ?_ | (refine ret_gen (by first | exact .inr rfl | exact .inl rfl) (rfl) ?_) | (refine guardP_split (fun _ => ?_) (fun _ => ?_)) | (refine condP_split (fun _ => ?_) (fun _ => ?_)) | (refine guardP_splitB (fun _ => ?_) (fun _ => ?_)) | (refine condP_splitB (fun _ => ?_) (fun _ => ?_)))
      all_goals (exfalso; apply hsrc; constructor <;> assumption)
  · rw [appR_bad hok]
    rw [decide_eq_false hok] at hv
    simp only [patchV_eq] at hv ⊢
    refine AC.of_run mo Try.func13 Try.call13 ⟨rfl, Try.ntmps13, Try.results13, by kernel_rfl⟩ rfl ?_
    repeat' (first | simp only [go_sem, ↓reduceIte, Nat.reduceEqDiff, Nat.reduceAdd, Nat.reduceMul, Nat.reduceSub, Nat.reduceLeDiff, Nat.reduceLT, Nat.reduceBEq, Nat.reduceBNe, Int.reduceLT, Int.reduceLE, Int.reduceEq, Int.reduceNeg, Int.reduceToNat, Int.toNat_natCast, Int.natCast_nonneg, List.length_append, List.length_map, List.length_replicate, Bool.and_eq_true, decide_eq_true_eq, List.length_take, List.length_drop, Int.reduceSub, Int.reduceAdd, Int.reduceMul, Int.sub_zero, Int.add_zero, Int.zero_add, reduceCtorEq, decide_true, decide_false, Bool.false_eq_true, List.reduceReplicate, *] | simp (disch := omega) only [wrap_i64, wrap_u8, Int.tdiv_eq_ediv_of_nonneg, Int.tmod_eq_emod_of_nonneg, if_pos] | (refine callP_0 (hv ..) (rfl) (rfl) ?_) | (refine callX_ac (hv ..) (rfl) (rfl) ?_) | refine callP_x ?_ | (refine ret_gen (by first | exact .inr rfl | exact .inl rfl) (rfl) ?_) | (refine guardP_split (fun _ => ?_) (fun _ => ?_)) | (refine condP_split (fun _ => ?_) (fun _ => ?_)) | (refine guardP_splitB (fun _ => ?_) (fun _ => ?_)) | (refine condP_splitB (fun _ => ?_) (fun _ => ?_)))
theorem extS_succ {s : List UInt8} {t k : Nat} : extS s (s.length + k) = s ++ List.replicate k 0 := by simp [extS]
theorem l29Apply_ac (p : PatchD) (b : List UInt8) (hb : b.length ≤ 1048576) (hs : ∀ h ∈ p.hunks, h.old.length ≤ 1048576 ∧ h.new.length ≤ 1048576) (hok : patchOk p) : AC Try.prog 45 [.dptr [.int .i64 p.src, .int .i64 p.dst, .int .i64 p.sumFrom, .int .i64 p.sumTo, .lst (p.hunks.map hunkV)], .str b] (appR p b) := by
  have hcr := sCrc_ac b 65535 (by decide) (by omega)
  have c3 : ((65535 : Nat) : Int) = 65535 := rfl
  rw [c3] at hcr
  by_cases hsrc : (b.length : Int) = p.src ∧ ((crcL 65535 b : Nat) : Int) = p.sumFrom
  · have hsr1 := hsrc.1
    have hsr2 := hsrc.2
    have hd := hok.1.2.1
    have hh := hok.1.2.2.2.2
    have hsr3 : (decide ((b.length : Int) = p.src)) = true := decide_eq_true hsr1
    have hsr4 : (decide (((crcL 65535 b : Nat) : Int) = p.sumFrom)) = true := decide_eq_true hsr2
    generalize hR : appR p b = R
    refine AC.of_run mo Try.func45 Try.call45 ⟨rfl, Try.ntmps45, Try.results45, by kernel_rfl⟩ rfl ?_
    repeat' (first | simp only [go_sem, ↓reduceIte, Nat.reduceEqDiff, Nat.reduceAdd, Nat.reduceMul, Nat.reduceSub, Nat.reduceLeDiff, Nat.reduceLT, Nat.reduceBEq, Nat.reduceBNe, Int.reduceLT, Int.reduceLE, Int.reduceEq, Int.reduceNeg, Int.reduceToNat, Int.toNat_natCast, Int.natCast_nonneg, List.length_append, List.length_map, List.length_replicate, Bool.and_eq_true, decide_eq_true_eq, List.length_take, List.length_drop, Int.reduceSub, Int.reduceAdd, Int.reduceMul, Int.sub_zero, Int.add_zero, Int.zero_add, reduceCtorEq, decide_true, decide_false, Bool.false_eq_true, List.reduceReplicate, *] | simp (disch := omega) only [wrap_i64, wrap_u8, Int.tdiv_eq_ediv_of_nonneg, Int.tmod_eq_emod_of_nonneg, if_pos] | (refine callP_0 (hcr ..) (rfl) (rfl) ?_) | (refine callX_ac (hcr ..) (rfl) (rfl) ?_) | refine callP_x ?_ | (refine ret_gen (by first | exact .inr rfl | exact .inl rfl) (rfl) ?_) | (refine guardP_split (fun _ => ?_) (fun _ => ?_)) | (refine condP_split (fun _ => ?_) (fun _ => ?_)) | (refine guardP_splitB (fun _ => ?_) (fun _ => ?_)) | (refine condP_splitB (fun _ => ?_) (fun _ => ?_)))
    refine sx_loop (fun m s => ∃ k g, k ≤ p.dst.toNat - b.length ∧ m = p.dst.toNat - b.length - k ∧ s.τ 0 = .dptr [.int .i64 p.src, .int .i64 p.dst, .int .i64 p.sumFrom, .int .i64 p.sumTo, .lst (p.hunks.map hunkV)] ∧ s.τ 1 = .str b ∧ s.τ 6 = .ref 3001 g 0 (b.length + k) ∧ s.nx = 0 ∧
      s.H 3001 = some ⟨1, bytesA (b ++ List.replicate k 0), g, true⟩) (p.dst.toNat - b.length) ⟨0, 0, by simp [go_sem]⟩ ?_
    rintro m s ⟨k, g, hk1, rfl, t0, t1, t6, hnx, hH⟩
    have hl : (b ++ List.replicate k 0).length = b.length + k := by simp
    simp only [go_sem, ↓reduceIte, Nat.reduceEqDiff, Nat.reduceAdd, Nat.reduceMul, Nat.reduceSub, Nat.reduceLeDiff, Nat.reduceLT, Nat.reduceBEq, Nat.reduceBNe, Int.reduceLT, Int.reduceLE, Int.reduceEq, Int.reduceNeg, Int.reduceToNat, Int.toNat_natCast, Int.natCast_nonneg, List.length_append, List.length_map, List.length_replicate, Bool.and_eq_true, decide_eq_true_eq, List.length_take, List.length_drop, Int.reduceSub, Int.reduceAdd, Int.reduceMul, Int.sub_zero, Int.add_zero, Int.zero_add, reduceCtorEq, decide_true, decide_false, Bool.false_eq_true, List.reduceReplicate, t0, t1, t6, hnx, hH, hl]
    refine condP_split (fun hc => ?_) (fun hc => ?_)
    · clear hsr1 hsr2
      repeat' (first | simp only [go_sem, ↓reduceIte, Nat.reduceEqDiff, Nat.reduceAdd, Nat.reduceMul, Nat.reduceSub, Nat.reduceLeDiff, Nat.reduceLT, Nat.reduceBEq, Nat.reduceBNe, Int.reduceLT, Int.reduceLE, Int.reduceEq, Int.reduceNeg, Int.reduceToNat, Int.toNat_natCast, Int.natCast_nonneg, List.length_append, List.length_map, List.length_replicate, Bool.and_eq_true, decide_eq_true_eq, List.length_take, List.length_drop, Int.reduceSub, Int.reduceAdd, Int.reduceMul, Int.sub_zero, Int.add_zero, Int.zero_add, reduceCtorEq, decide_true, decide_false, Bool.false_eq_true, List.reduceReplicate, *] | simp (disch := omega) only [wrap_i64, wrap_u8, Int.tdiv_eq_ediv_of_nonneg, Int.tmod_eq_emod_of_nonneg, if_pos] | refine callP_x ?_ | (refine ret_gen (by first | exact .inr rfl | exact .inl rfl) (rfl) ?_) | (refine guardP_split (fun _ => ?_) (fun _ => ?_)) | (refine condP_split (fun _ => ?_) (fun _ => ?_)) | (refine guardP_splitB (fun _ => ?_) (fun _ => ?_)) | (refine condP_splitB (fun _ => ?_) (fun _ => ?_)))
      have h8 : ((0 : UInt8).toNat : Int) = 0 := rfl
      refine ⟨p.dst.toNat - b.length - (k + 1), by omega, k + 1, g + 1, by omega, rfl, rfl, ?_⟩
      rw [List.replicate_succ', ← List.append_assoc, ← bytesA_one, h8]
    · have hke : k = p.dst.toNat - b.length := by omega
      have he : b ++ List.replicate k 0 = extTo p b 0 := by rw [hke]; rfl
      rw [he] at hH
      have hM : b.length + k = max b.length p.dst.toNat := by omega
      rw [hM] at t6
      clear he hM hke
      repeat' (first | simp only [go_sem, ↓reduceIte, Nat.reduceEqDiff, Nat.reduceAdd, Nat.reduceMul, Nat.reduceSub, Nat.reduceLeDiff, Nat.reduceLT, Nat.reduceBEq, Nat.reduceBNe, Int.reduceLT, Int.reduceLE, Int.reduceEq, Int.reduceNeg, Int.reduceToNat, Int.toNat_natCast, Int.natCast_nonneg, List.length_append, List.length_map, List.length_replicate, Bool.and_eq_true, decide_eq_true_eq, List.length_take, List.length_drop, Int.reduceSub, Int.reduceAdd, Int.reduceMul, Int.sub_zero, Int.add_zero, Int.zero_add, reduceCtorEq, decide_true, decide_false, Bool.false_eq_true, List.reduceReplicate, *] | simp (disch := omega) only [wrap_i64, wrap_u8, Int.tdiv_eq_ediv_of_nonneg, Int.tmod_eq_emod_of_nonneg, if_pos] | refine callP_x ?_ | (refine ret_gen (by first | exact .inr rfl | exact .inl rfl) (rfl) ?_) | (refine guardP_split (fun _ => ?_) (fun _ => ?_)) | (refine condP_split (fun _ => ?_) (fun _ => ?_)) | (refine guardP_splitB (fun _ => ?_) (fun _ => ?_)) | (refine condP_splitB (fun _ => ?_) (fun _ => ?_)))
      refine sx_loop (fun m s => ∃ i, i ≤ p.hunks.length ∧ m = p.hunks.length - i ∧ s.τ 0 = .dptr [.int .i64 p.src, .int .i64 p.dst, .int .i64 p.sumFrom, .int .i64 p.sumTo, .lst (p.hunks.map hunkV)] ∧ s.τ 1 = .str b ∧ s.τ 6 = .ref 3001 g 0 (max b.length p.dst.toNat) ∧ s.τ 7 = .int .i64 (i : Int) ∧ s.nx = 0 ∧ (∀ j, j < i → hit b (hk p j)) ∧
        s.H 3001 = some ⟨1, bytesA (extTo p b i), g, true⟩) p.hunks.length ⟨0, by simp [go_sem, *]⟩ ?_
      rintro m s ⟨i, hi, rfl, u0, u1, u6, u7, unx, hhit, uH⟩
      have hel := extTo_len hok b i hi
      clear t0 t1 t6 hnx hH hc hl
      simp only [go_sem, ↓reduceIte, Nat.reduceEqDiff, Nat.reduceAdd, Nat.reduceMul, Nat.reduceSub, Nat.reduceLeDiff, Nat.reduceLT, Nat.reduceBEq, Nat.reduceBNe, Int.reduceLT, Int.reduceLE, Int.reduceEq, Int.reduceNeg, Int.reduceToNat, Int.toNat_natCast, Int.natCast_nonneg, List.length_append, List.length_map, List.length_replicate, Bool.and_eq_true, decide_eq_true_eq, List.length_take, List.length_drop, Int.reduceSub, Int.reduceAdd, Int.reduceMul, Int.sub_zero, Int.add_zero, Int.zero_add, reduceCtorEq, decide_true, decide_false, Bool.false_eq_true, List.reduceReplicate, u0, u1, u6, u7, unx]
      refine condP_split (fun hc => ?_) (fun hc => ?_)
      · have hlt : i < p.hunks.length := by omega
        have hg := hk_map hlt
        have hsz := hk_mem hlt hs
        have hni := new_in hok hlt
        have hwb := wrL_bytes (extTo p b i) (hk p i).pos.toNat (hk p i).new
        have hsu : extTo p b (i + 1) = wrL (extTo p b i) (hk p i).pos.toNat (hk p i).new := rfl
        have e1 : ((hk p i).pos + (hk p i).old.length - (hk p i).pos).toNat = (hk p i).old.length := by omega
        have e5 := bytesA_take (hk p i).new
        generalize hMM : max b.length p.dst.toNat = M at *
        have hM1 : b.length ≤ M := by omega
        have hM2 : p.dst.toNat ≤ M := by omega
        by_cases hm : hit b (hk p i)
        · have hm' := hm
          unfold hit at hm'
          repeat' (first | simp only [go_sem, ↓reduceIte, Nat.reduceEqDiff, Nat.reduceAdd, Nat.reduceMul, Nat.reduceSub, Nat.reduceLeDiff, Nat.reduceLT, Nat.reduceBEq, Nat.reduceBNe, Int.reduceLT, Int.reduceLE, Int.reduceEq, Int.reduceNeg, Int.reduceToNat, Int.toNat_natCast, Int.natCast_nonneg, List.length_append, List.length_map, List.length_replicate, Bool.and_eq_true, decide_eq_true_eq, List.length_take, List.length_drop, Int.reduceSub, Int.reduceAdd, Int.reduceMul, Int.sub_zero, Int.add_zero, Int.zero_add, reduceCtorEq, decide_true, decide_false, Bool.false_eq_true, List.reduceReplicate, *] | simp (disch := omega) only [wrap_i64, wrap_u8, Int.tdiv_eq_ediv_of_nonneg, Int.tmod_eq_emod_of_nonneg, if_pos] | refine callP_x ?_ | (refine ret_gen (by first | exact .inr rfl | exact .inl rfl) (rfl) ?_) | (refine guardP_split (fun _ => ?_) (fun _ => ?_)) | (refine condP_split (fun _ => ?_) (fun _ => ?_)) | (refine guardP_splitB (fun _ => ?_) (fun _ => ?_)) | (refine condP_splitB (fun _ => ?_) (fun _ => ?_)))
          have e6 : min (hk p i).new.length ((M : Int) - (hk p i).pos).toNat = (hk p i).new.length := by omega
          rw [e6, e5, hwb, ← hsu]
          exact ⟨p.hunks.length - (i + 1), by omega, i + 1, by omega, rfl, by simp only [Int.natCast_add, Int.cast_ofNat_Int], hit_succ hhit hm, rfl⟩
        · have hm' : ¬ ((b.drop (hk p i).pos.toNat).take (hk p i).old.length = (hk p i).old) := hm
          have hr := appR_miss hok hsrc hlt hm
          rw [hR] at hr
          subst hr
          repeat' (first | simp only [go_sem, ↓reduceIte, Nat.reduceEqDiff, Nat.reduceAdd, Nat.reduceMul, Nat.reduceSub, Nat.reduceLeDiff, Nat.reduceLT, Nat.reduceBEq, Nat.reduceBNe, Int.reduceLT, Int.reduceLE, Int.reduceEq, Int.reduceNeg, Int.reduceToNat, Int.toNat_natCast, Int.natCast_nonneg, List.length_append, List.length_map, List.length_replicate, Bool.and_eq_true, decide_eq_true_eq, List.length_take, List.length_drop, Int.reduceSub, Int.reduceAdd, Int.reduceMul, Int.sub_zero, Int.add_zero, Int.zero_add, reduceCtorEq, decide_true, decide_false, Bool.false_eq_true, List.reduceReplicate, *] | simp (disch := omega) only [wrap_i64, wrap_u8, Int.tdiv_eq_ediv_of_nonneg, Int.tmod_eq_emod_of_nonneg, if_pos] | refine callP_x ?_ | (refine ret_gen (by first | exact .inr rfl | exact .inl rfl) (rfl) ?_) | (refine guardP_split (fun _ => ?_) (fun _ => ?_)) | (refine condP_split (fun _ => ?_) (fun _ => ?_)) | (refine guardP_splitB (fun _ => ?_) (fun _ => ?_)) | (refine condP_splitB (fun _ => ?_) (fun _ => ?_)))
      · have e : i = p.hunks.length := by omega
        subst e
        have hal := appTo_len hok b (i := p.hunks.length) (by omega)
        have hcr2 := sCrc_ac (appTo p b p.hunks.length) 65535 (by decide) (by omega)
        rw [c3] at hcr2
        have htk : (bytesA (extTo p b p.hunks.length)).take p.dst.toNat = bytesA (appTo p b p.hunks.length) := by simp only [bytesA, appTo, List.map_take]
        generalize hMM : max b.length p.dst.toNat = M at *
        have hM2 : p.dst.toNat ≤ M := by omega
        by_cases hsm : ((crcL 65535 (appTo p b p.hunks.length) : Nat) : Int) = p.sumTo
        · have hr := appR_ok hok hsrc hhit hsm
          rw [hR] at hr
          subst hr
          clear hR
          repeat' (first | simp only [go_sem, ↓reduceIte, Nat.reduceEqDiff, Nat.reduceAdd, Nat.reduceMul, Nat.reduceSub, Nat.reduceLeDiff, Nat.reduceLT, Nat.reduceBEq, Nat.reduceBNe, Int.reduceLT, Int.reduceLE, Int.reduceEq, Int.reduceNeg, Int.reduceToNat, Int.toNat_natCast, Int.natCast_nonneg, List.length_append, List.length_map, List.length_replicate, Bool.and_eq_true, decide_eq_true_eq, List.length_take, List.length_drop, Int.reduceSub, Int.reduceAdd, Int.reduceMul, Int.sub_zero, Int.add_zero, Int.zero_add, reduceCtorEq, decide_true, decide_false, Bool.false_eq_true, List.reduceReplicate, *] | simp (disch := omega) only [wrap_i64, wrap_u8, Int.tdiv_eq_ediv_of_nonneg, Int.tmod_eq_emod_of_nonneg, if_pos] | (refine callP_0 (hcr2 ..) (rfl) (rfl) ?_) | (refine callX_ac (hcr2 ..) (rfl) (rfl) ?_) | refine callP_x ?_ | (refine ret_gen (by first | exact .inr rfl | exact .inl rfl) (rfl) ?_) | (refine guardP_split (fun _ => ?_) (fun _ => ?_)) | (refine condP_split (fun _ => ?_) (fun _ => ?_)) | (refine guardP_splitB (fun _ => ?_) (fun _ => ?_)) | (refine condP_splitB (fun _ => ?_) (fun _ => ?_)))
        · have hr := appR_sum hok hsrc hhit hsm
          rw [hR] at hr
          subst hr
          clear hR
          repeat' (first | simp only [go_sem, ↓reduceIte, Nat.reduceEqDiff, Nat.reduceAdd, Nat.reduceMul, Nat.reduceSub, Nat.reduceLeDiff, Nat.reduceLT, Nat.reduceBEq, Nat.reduceBNe, Int.reduceLT, Int.reduceLE, Int.reduceEq, Int.reduceNeg, Int.reduceToNat, Int.toNat_natCast, Int.natCast_nonneg, List.length_append, List.length_map, List.length_replicate, Bool.and_eq_true, decide_eq_true_eq, List.length_take, List.length_drop, Int.reduceSub, Int.reduceAdd, Int.reduceMul, Int.sub_zero, Int.add_zero, Int.zero_add, reduceCtorEq, decide_true, decide_false, Bool.false_eq_true, List.reduceReplicate, *] | simp (disch := omega) only [wrap_i64, wrap_u8, Int.tdiv_eq_ediv_of_nonneg, Int.tmod_eq_emod_of_nonneg, if_pos] | (refine callP_0 (hcr2 ..) (rfl) (rfl) ?_) | (refine callX_ac (hcr2 ..) (rfl) (rfl) ?_) | refine callP_x ?_ | (refine ret_gen (by first | exact .inr rfl | exact .inl rfl) (rfl) ?_) | (refine guardP_split (fun _ => ?_) (fun _ => ?_)) | (refine condP_split (fun _ => ?_) (fun _ => ?_)) | (refine guardP_splitB (fun _ => ?_) (fun _ => ?_)) | (refine condP_splitB (fun _ => ?_) (fun _ => ?_)))
  · rw [appR_src hok hsrc]
    refine AC.of_run mo Try.func45 Try.call45 ⟨rfl, Try.ntmps45, Try.results45, by kernel_rfl⟩ rfl ?_
    repeat' (first | simp only [go_sem, ↓reduceIte, Nat.reduceEqDiff, Nat.reduceAdd, Nat.reduceMul, Nat.reduceSub, Nat.reduceLeDiff, Nat.reduceLT, Nat.reduceBEq, Nat.reduceBNe, Int.reduceLT, Int.reduceLE, Int.reduceEq, Int.reduceNeg, Int.reduceToNat, Int.toNat_natCast, Int.natCast_nonneg, List.length_append, List.length_map, List.length_replicate, Bool.and_eq_true, decide_eq_true_eq, List.length_take, List.length_drop, Int.reduceSub, Int.reduceAdd, Int.reduceMul, Int.sub_zero, Int.add_zero, Int.zero_add, reduceCtorEq, decide_true, decide_false, Bool.false_eq_true, List.reduceReplicate, *] | simp (disch := omega) only [wrap_i64, wrap_u8, Int.tdiv_eq_ediv_of_nonneg, Int.tmod_eq_emod_of_nonneg, if_pos] | (refine callP_0 (hcr ..) (rfl) (rfl) ?_) | (refine callX_ac (hcr ..) (rfl) (rfl) ?_) | refine callP_x ?_ | (refine ret_gen (by first | exact .inr rfl | exact .inl rfl) (rfl) ?_) | (refine guardP_split (fun _ => ?_) (fun _ => ?_)) | (refine condP_split (fun _ => ?_) (fun _ => ?_)) | (refine guardP_splitB (fun _ => ?_) (fun _ => ?_)) | (refine condP_splitB (fun _ => ?_) (fun _ => ?_)))
    all_goals (exfalso; apply hsrc; constructor <;> assumption)
theorem appR_two (p : PatchD) (b : List UInt8) : ∃ x y, appR p b = .tup [.str x, .int .i64 y] := by
  unfold appR
  split
  · split
    · split
      · split
        · exact ⟨_, _, rfl⟩
        · exact ⟨_, _, rfl⟩
      · exact ⟨_, _, rfl⟩
    · exact ⟨_, _, rfl⟩
  · exact ⟨_, _, rfl⟩
theorem sApplyPatch_ac (p : PatchD) (b : List UInt8) (hb : b.length ≤ 1048576) (hs : ∀ h ∈ p.hunks, h.old.length ≤ 1048576 ∧ h.new.length ≤ 1048576) : AC Try.prog 11 [patchV p, .str b] (appR p b) := by
  have hv := l29Ok_ac p hs
  by_cases hok : patchOk p
  · have ha := l29Apply_ac p b hb hs hok
    rw [decide_eq_true hok] at hv
    simp only [patchV_eq]
    obtain ⟨x, y, hxy⟩ := appR_two p b
    rw [hxy] at ha ⊢
    refine AC.of_run mo Try.func11 Try.call11 ⟨rfl, Try.ntmps11, Try.results11, by kernel_rfl⟩ rfl ?_
    repeat' (first | simp only [go_sem, ↓reduceIte, Nat.reduceEqDiff, Nat.reduceAdd, Nat.reduceMul, Nat.reduceSub, Nat.reduceLeDiff, Nat.reduceLT, Nat.reduceBEq, Nat.reduceBNe, Int.reduceLT, Int.reduceLE, Int.reduceEq, Int.reduceNeg, Int.reduceToNat, Int.toNat_natCast, Int.natCast_nonneg, List.length_append, List.length_map, List.length_replicate, Bool.and_eq_true, decide_eq_true_eq, List.length_take, List.length_drop, Int.reduceSub, Int.reduceAdd, Int.reduceMul, Int.sub_zero, Int.add_zero, Int.zero_add, reduceCtorEq, decide_true, decide_false, Bool.false_eq_true, List.reduceReplicate, *] | simp (disch := omega) only [wrap_i64, wrap_u8, Int.tdiv_eq_ediv_of_nonneg, Int.tmod_eq_emod_of_nonneg, if_pos] | (refine callP_0 (hv ..) (rfl) (rfl) ?_) | (refine callP_0 (ha ..) (rfl) (rfl) ?_) | (refine callX_ac (hv ..) (rfl) (rfl) ?_) | (refine callX_ac (ha ..) (rfl) (rfl) ?_) | refine callP_x ?_ | (refine ret_gen (by first | exact .inr rfl | exact .inl rfl) (rfl) ?_) | (refine guardP_split (fun _ => ?_) (fun _ => ?_)) | (refine condP_split (fun _ => ?_) (fun _ => ?_)) | (refine guardP_splitB (fun _ => ?_) (fun _ => ?_)) | (refine condP_splitB (fun _ => ?_) (fun _ => ?_)))
  · rw [appR_bad hok]
    rw [decide_eq_false hok] at hv
    simp only [patchV_eq]
    refine AC.of_run mo Try.func11 Try.call11 ⟨rfl, Try.ntmps11, Try.results11, by kernel_rfl⟩ rfl ?_
    repeat' (first | simp only [go_sem, ↓reduceIte, Nat.reduceEqDiff, Nat.reduceAdd, Nat.reduceMul, Nat.reduceSub, Nat.reduceLeDiff, Nat.reduceLT, Nat.reduceBEq, Nat.reduceBNe, Int.reduceLT, Int.reduceLE, Int.reduceEq, Int.reduceNeg, Int.reduceToNat, Int.toNat_natCast, Int.natCast_nonneg, List.length_append, List.length_map, List.length_replicate, Bool.and_eq_true, decide_eq_true_eq, List.length_take, List.length_drop, Int.reduceSub, Int.reduceAdd, Int.reduceMul, Int.sub_zero, Int.add_zero, Int.zero_add, reduceCtorEq, decide_true, decide_false, Bool.false_eq_true, List.reduceReplicate, *] | simp (disch := omega) only [wrap_i64, wrap_u8, Int.tdiv_eq_ediv_of_nonneg, Int.tmod_eq_emod_of_nonneg, if_pos] | (refine callP_0 (hv ..) (rfl) (rfl) ?_) | (refine callX_ac (hv ..) (rfl) (rfl) ?_) | refine callP_x ?_ | (refine ret_gen (by first | exact .inr rfl | exact .inl rfl) (rfl) ?_) | (refine guardP_split (fun _ => ?_) (fun _ => ?_)) | (refine condP_split (fun _ => ?_) (fun _ => ?_)) | (refine guardP_splitB (fun _ => ?_) (fun _ => ?_)) | (refine condP_splitB (fun _ => ?_) (fun _ => ?_)))
end
end Go.Ab
