/- The contracts of the functions that trim dumps. Conditions: none. -/
import Derived.Test.YtjoomndcdpkplaaDoorCRead
import Derived.Test.YtjoomndcdpkplaaDoorCRepeat
namespace Go.Ab
open Go.RowKit Go.Proofs
set_option maxRecDepth 10000
set_option maxHeartbeats 4000000
set_option linter.unusedSimpArgs false
set_option linter.unusedVariables false
noncomputable section
def fillTo (r : List UInt8) (n : Nat) : Prop := ∀ i, i < n → rdB r i = rdB r 0
def mirTo (r p : List UInt8) (n : Nat) : Prop := ∀ i, i < n → rdB r i = rdB p (i % p.length)
instance (r : List UInt8) (n : Nat) : Decidable (fillTo r n) := Classical.propDecidable _
instance (r p : List UInt8) (n : Nat) : Decidable (mirTo r p n) := Classical.propDecidable _
def behR (r p : List UInt8) : Int := if r = [] then 0 else if fillTo r r.length then 1 else if mirTo r p r.length then 2 else 3
theorem rep_one {r : List UInt8} (h : r ≠ []) : Go.Lib.repeatL (r.take 1) r.length = List.replicate r.length (rdB r 0) := by
  cases r with
  | nil => exact absurd rfl h
  | cons b r =>
    have := Go.Lib.repeatL_replicate b 1 (b :: r).length
    simpa [rdB] using this
theorem rep_fill {r : List UInt8} : List.replicate r.length (rdB r 0) = r ↔ fillTo r r.length := by
  constructor
  · intro h i hi
    have h1 : (List.replicate r.length (rdB r 0))[i]? = r[i]? := by rw [h]
    rw [List.getElem?_replicate, if_pos hi, rdB_get hi] at h1
    injection h1 with h1
    exact h1.symm
  · intro h
    refine List.ext_getElem? fun i => ?_
    by_cases hi : i < r.length
    · rw [List.getElem?_replicate, if_pos hi, rdB_get hi, h i hi]
    · rw [List.getElem?_eq_none (by simp; omega), List.getElem?_eq_none (by omega)]
theorem mirTo_succ {r p : List UInt8} {i : Nat} (h : mirTo r p i) (hi : rdB r i = rdB p (i % p.length)) : mirTo r p (i + 1) := fun j hj => by
  by_cases e : j = i
  · subst e; exact hi
  · exact h j (by omega)
theorem mirTo_iff (r p : List UInt8) (i : Nat) : mirTo r p (i + 1) ↔ mirTo r p i ∧ rdB r i = rdB p (i % p.length) :=
  ⟨fun h => ⟨fun j hj => h j (by omega), h i (by omega)⟩, fun h => mirTo_succ h.1 h.2⟩
theorem fillTo_iff (r : List UInt8) (i : Nat) : fillTo r (i + 1) ↔ fillTo r i ∧ rdB r i = rdB r 0 :=
  ⟨fun h => ⟨fun j hj => h j (by omega), h i (by omega)⟩, fun h j hj => by
    by_cases e : j = i
    · subst e; exact h.2
    · exact h.1 j (by omega)⟩
theorem behind_ac (r p : List UInt8) (hr : r.length ≤ 1048576) (hp : 0 < p.length ∧ p.length ≤ 1048576) : AC Tryd.prog 38 [.str r, .str p] (.int .i64 (behR r p)) := by
  by_cases h0 : r = []
  · subst h0
    refine AC.of_run mo Tryd.func38 Tryd.call38 ⟨rfl, Tryd.ntmps38, Tryd.results38, by kernel_rfl⟩ rfl ?_
    repeat' (first | simp only [go_sem, ↓reduceIte, Nat.reduceEqDiff, Nat.reduceAdd, Nat.reduceMul, Nat.reduceSub, Nat.reduceLeDiff, Nat.reduceLT, Nat.reduceBEq, Nat.reduceBNe, Int.reduceLT, Int.reduceLE, Int.reduceEq, Int.reduceNeg, Int.reduceToNat, Int.toNat_natCast, Int.natCast_nonneg, List.length_append, List.length_map, List.length_replicate, Bool.and_eq_true, decide_eq_true_eq, List.length_take, List.length_drop, Int.reduceSub, Int.reduceAdd, Int.reduceMul, Int.sub_zero, Int.add_zero, Int.zero_add, reduceCtorEq, decide_true, decide_false, Bool.false_eq_true, List.reduceReplicate, *] | simp (disch := omega) only [wrap_i64, wrap_u8, Int.tdiv_eq_ediv_of_nonneg, Int.tmod_eq_emod_of_nonneg, if_pos] | refine callP_x ?_ | (refine ret_gen (by first | exact .inr rfl | exact .inl rfl) (rfl) ?_) | (refine guardP_split (fun _ => ?_) (fun _ => ?_)) | (refine condP_split (fun _ => ?_) (fun _ => ?_)) | (refine guardP_splitB (fun _ => ?_) (fun _ => ?_)) | (refine condP_splitB (fun _ => ?_) (fun _ => ?_)))
    all_goals simp [behR]
  · have h0' : ¬ r = [] := h0
    have hpos : 0 < r.length := List.length_pos_iff.2 h0
    have h1l : (r.take 1).length = 1 := by rw [List.length_take]; omega
    have hrep := repeat_ac (r.take 1) r.length (by omega) (by rw [h1l]; omega)
    rw [rep_one h0] at hrep
    have e1 : (1 : Int) ≤ (r.length : Int) := by omega
    by_cases hf : fillTo r r.length
    · rw [rep_fill.2 hf] at hrep
      have hd : decide (r = r) = true := decide_eq_true rfl
      have hB : behR r p = 1 := by unfold behR; rw [if_neg h0, if_pos hf]
      rw [hB]
      refine AC.of_run mo Tryd.func38 Tryd.call38 ⟨rfl, Tryd.ntmps38, Tryd.results38, by kernel_rfl⟩ rfl ?_
      repeat' (first | simp only [go_sem, ↓reduceIte, Nat.reduceEqDiff, Nat.reduceAdd, Nat.reduceMul, Nat.reduceSub, Nat.reduceLeDiff, Nat.reduceLT, Nat.reduceBEq, Nat.reduceBNe, Int.reduceLT, Int.reduceLE, Int.reduceEq, Int.reduceNeg, Int.reduceToNat, Int.toNat_natCast, Int.natCast_nonneg, List.length_append, List.length_map, List.length_replicate, Bool.and_eq_true, decide_eq_true_eq, List.length_take, List.length_drop, Int.reduceSub, Int.reduceAdd, Int.reduceMul, Int.sub_zero, Int.add_zero, Int.zero_add, reduceCtorEq, decide_true, decide_false, Bool.false_eq_true, List.reduceReplicate, *] | simp (disch := omega) only [wrap_i64, wrap_u8, Int.tdiv_eq_ediv_of_nonneg, Int.tmod_eq_emod_of_nonneg, if_pos] | (refine callP_0 (hrep ..) (rfl) (rfl) ?_) | (refine callX_ac (hrep ..) (rfl) (rfl) ?_) | refine callP_x ?_ | (refine ret_gen (by first | exact .inr rfl | exact .inl rfl) (rfl) ?_) | (refine guardP_split (fun _ => ?_) (fun _ => ?_)) | (refine condP_split (fun _ => ?_) (fun _ => ?_)) | (refine guardP_splitB (fun _ => ?_) (fun _ => ?_)) | (refine condP_splitB (fun _ => ?_) (fun _ => ?_)))
      all_goals done
    · have hne : ¬ List.replicate r.length (rdB r 0) = r := fun h => hf (rep_fill.1 h)
      have hB : behR r p = if mirTo r p r.length then 2 else 3 := by unfold behR; rw [if_neg h0, if_neg hf]
      generalize List.replicate r.length (rdB r 0) = q at hrep hne
      generalize hRR : behR r p = R at hB ⊢
      have hB2 : R = if mirTo r p r.length then 2 else 3 := hB
      clear hB hRR
      revert hB2
      generalize hQ : (if mirTo r p r.length then (2 : Int) else 3) = Q
      rintro rfl
      refine AC.of_run mo Tryd.func38 Tryd.call38 ⟨rfl, Tryd.ntmps38, Tryd.results38, by kernel_rfl⟩ rfl ?_
      repeat' (first | simp only [go_sem, ↓reduceIte, Nat.reduceEqDiff, Nat.reduceAdd, Nat.reduceMul, Nat.reduceSub, Nat.reduceLeDiff, Nat.reduceLT, Nat.reduceBEq, Nat.reduceBNe, Int.reduceLT, Int.reduceLE, Int.reduceEq, Int.reduceNeg, Int.reduceToNat, Int.toNat_natCast, Int.natCast_nonneg, List.length_append, List.length_map, List.length_replicate, Bool.and_eq_true, decide_eq_true_eq, List.length_take, List.length_drop, Int.reduceSub, Int.reduceAdd, Int.reduceMul, Int.sub_zero, Int.add_zero, Int.zero_add, reduceCtorEq, decide_true, decide_false, Bool.false_eq_true, List.reduceReplicate, *] | simp (disch := omega) only [wrap_i64, wrap_u8, Int.tdiv_eq_ediv_of_nonneg, Int.tmod_eq_emod_of_nonneg, if_pos] | (refine callP_0 (hrep ..) (rfl) (rfl) ?_) | (refine callX_ac (hrep ..) (rfl) (rfl) ?_) | refine callP_x ?_ | (refine ret_gen (by first | exact .inr rfl | exact .inl rfl) (rfl) ?_) | (refine guardP_split (fun _ => ?_) (fun _ => ?_)) | (refine condP_split (fun _ => ?_) (fun _ => ?_)) | (refine guardP_splitB (fun _ => ?_) (fun _ => ?_)) | (refine condP_splitB (fun _ => ?_) (fun _ => ?_)))
      refine sx_loop (fun m s => ∃ i, i ≤ r.length ∧ m = r.length - i ∧ s.τ 0 = .str r ∧ s.τ 1 = .str p ∧ s.τ 16 = .int .i64 r.length ∧ s.τ 17 = .int .i64 (i : Int) ∧ mirTo r p i) r.length ⟨0, by simp [go_sem, mirTo]⟩ ?_
      rintro m s ⟨i, hi, rfl, t0, t1, t16, t17, hm⟩
      simp only [go_sem, ↓reduceIte, Nat.reduceEqDiff, Nat.reduceAdd, Nat.reduceMul, Nat.reduceSub, Nat.reduceLeDiff, Nat.reduceLT, Nat.reduceBEq, Nat.reduceBNe, Int.reduceLT, Int.reduceLE, Int.reduceEq, Int.reduceNeg, Int.reduceToNat, Int.toNat_natCast, Int.natCast_nonneg, List.length_append, List.length_map, List.length_replicate, Bool.and_eq_true, decide_eq_true_eq, List.length_take, List.length_drop, Int.reduceSub, Int.reduceAdd, Int.reduceMul, Int.sub_zero, Int.add_zero, Int.zero_add, reduceCtorEq, decide_true, decide_false, Bool.false_eq_true, List.reduceReplicate, t0, t1, t16, t17]
      refine condP_split (fun hc => ?_) (fun hc => ?_)
      · have hlt : i < r.length := by omega
        have hg := rdB_get hlt
        have hml : i % p.length < p.length := Nat.mod_lt _ hp.1
        have hgp := rdB_get hml
        have hmod : Int.tmod (i : Int) (p.length : Int) = ((i % p.length : Nat) : Int) := tmod_nat i p.length
        have hz : ¬ (p.length : Int) = 0 := by omega
        by_cases he : rdB r i = rdB p (i % p.length)
        · have he' : ((rdB r i).toNat : Int) = ((rdB p (i % p.length)).toNat : Int) := by rw [he]
          repeat' (first | simp only [go_sem, ↓reduceIte, Nat.reduceEqDiff, Nat.reduceAdd, Nat.reduceMul, Nat.reduceSub, Nat.reduceLeDiff, Nat.reduceLT, Nat.reduceBEq, Nat.reduceBNe, Int.reduceLT, Int.reduceLE, Int.reduceEq, Int.reduceNeg, Int.reduceToNat, Int.toNat_natCast, Int.natCast_nonneg, List.length_append, List.length_map, List.length_replicate, Bool.and_eq_true, decide_eq_true_eq, List.length_take, List.length_drop, Int.reduceSub, Int.reduceAdd, Int.reduceMul, Int.sub_zero, Int.add_zero, Int.zero_add, reduceCtorEq, decide_true, decide_false, Bool.false_eq_true, List.reduceReplicate, *] | simp (disch := omega) only [wrap_i64, wrap_u8, Int.tdiv_eq_ediv_of_nonneg, Int.tmod_eq_emod_of_nonneg, if_pos] | refine callP_x ?_ | (refine ret_gen (by first | exact .inr rfl | exact .inl rfl) (rfl) ?_) | (refine guardP_split (fun _ => ?_) (fun _ => ?_)) | (refine condP_split (fun _ => ?_) (fun _ => ?_)) | (refine guardP_splitB (fun _ => ?_) (fun _ => ?_)) | (refine condP_splitB (fun _ => ?_) (fun _ => ?_)))
          exact ⟨r.length - (i + 1), by omega, i + 1, by omega, rfl, by simp only [Int.natCast_add, Int.cast_ofNat_Int], mirTo_succ hm he⟩
        · have he' : ¬ ((rdB r i).toNat : Int) = ((rdB p (i % p.length)).toNat : Int) := fun e => he (UInt8.toNat_inj.1 (by omega))
          rw [if_neg fun h => he (h i hlt)] at hQ
          subst hQ
          clear he
          repeat' (first | simp only [go_sem, ↓reduceIte, Nat.reduceEqDiff, Nat.reduceAdd, Nat.reduceMul, Nat.reduceSub, Nat.reduceLeDiff, Nat.reduceLT, Nat.reduceBEq, Nat.reduceBNe, Int.reduceLT, Int.reduceLE, Int.reduceEq, Int.reduceNeg, Int.reduceToNat, Int.toNat_natCast, Int.natCast_nonneg, List.length_append, List.length_map, List.length_replicate, Bool.and_eq_true, decide_eq_true_eq, List.length_take, List.length_drop, Int.reduceSub, Int.reduceAdd, Int.reduceMul, Int.sub_zero, Int.add_zero, Int.zero_add, reduceCtorEq, decide_true, decide_false, Bool.false_eq_true, List.reduceReplicate, *] | simp (disch := omega) only [wrap_i64, wrap_u8, Int.tdiv_eq_ediv_of_nonneg, Int.tmod_eq_emod_of_nonneg, if_pos] | refine callP_x ?_ | (refine ret_gen (by first | exact .inr rfl | exact .inl rfl) (rfl) ?_) | (refine guardP_split (fun _ => ?_) (fun _ => ?_)) | (refine condP_split (fun _ => ?_) (fun _ => ?_)) | (refine guardP_splitB (fun _ => ?_) (fun _ => ?_)) | (refine condP_splitB (fun _ => ?_) (fun _ => ?_)))
      · have e : i = r.length := by omega
        subst e
        rw [if_pos hm] at hQ
        subst hQ
        repeat' (first | simp only [go_sem, ↓reduceIte, Nat.reduceEqDiff, Nat.reduceAdd, Nat.reduceMul, Nat.reduceSub, Nat.reduceLeDiff, Nat.reduceLT, Nat.reduceBEq, Nat.reduceBNe, Int.reduceLT, Int.reduceLE, Int.reduceEq, Int.reduceNeg, Int.reduceToNat, Int.toNat_natCast, Int.natCast_nonneg, List.length_append, List.length_map, List.length_replicate, Bool.and_eq_true, decide_eq_true_eq, List.length_take, List.length_drop, Int.reduceSub, Int.reduceAdd, Int.reduceMul, Int.sub_zero, Int.add_zero, Int.zero_add, reduceCtorEq, decide_true, decide_false, Bool.false_eq_true, List.reduceReplicate, *] | simp (disch := omega) only [wrap_i64, wrap_u8, Int.tdiv_eq_ediv_of_nonneg, Int.tmod_eq_emod_of_nonneg, if_pos] | refine callP_x ?_ | (refine ret_gen (by first | exact .inr rfl | exact .inl rfl) (rfl) ?_) | (refine guardP_split (fun _ => ?_) (fun _ => ?_)) | (refine condP_split (fun _ => ?_) (fun _ => ?_)) | (refine guardP_splitB (fun _ => ?_) (fun _ => ?_)) | (refine condP_splitB (fun _ => ?_) (fun _ => ?_)))
def dmN (l : List UInt8) : Nat := 16 + 64 * (rdB l 4).toNat
def dmOk (l : List UInt8) : Prop := 16 ≤ l.length ∧ l.length ≤ 4096 ∧ dmN l ≤ l.length
instance (l : List UInt8) : Decidable (dmOk l) := by unfold dmOk; infer_instance
def dumpR (l p : List UInt8) (c : Int) : AV :=
  if dmOk l then (if c = 0 then .tup [.str (l.take (dmN l)), .int .i64 (behR (l.drop (dmN l)) p), .int .i64 0] else .tup [.str [], .int .i64 0, .int .i64 c]) else .tup [.str [], .int .i64 0, .int .i64 7]
theorem dumpR_three (l p : List UInt8) (c : Int) : ∃ x y z, dumpR l p c = .tup [.str x, .int .i64 y, .int .i64 z] := by
  unfold dumpR
  split
  · split
    · exact ⟨_, _, _, rfl⟩
    · exact ⟨_, _, _, rfl⟩
  · exact ⟨_, _, _, rfl⟩
theorem readR_ok {l t p : List UInt8} {m c : Int} (h : readR l = .tup [.agg [.str t, .int .i64 m, .str p], .int .i64 c]) (hc : c = 0) : 0 < p.length ∧ p.length ≤ l.length := by
  subst hc
  unfold readR rdBad at h
  split at h
  · split at h
    · rename_i hcart
      split at h
      · simp only [AV.tup.injEq, List.cons.injEq, AV.agg.injEq, AV.str.injEq, and_true] at h
        obtain ⟨_, _, rfl⟩ := h
        have := hcart.2.2.2.1
        refine ⟨by omega, ?_⟩
        simp [rdP]
      · simp at h
    · simp at h
  · simp at h
theorem iTrimDump_ac (l : List UInt8) (hl : l.length ≤ 1048576) (t p : List UInt8) (m c : Int) (hr : readR (l.take (dmN l)) = .tup [.agg [.str t, .int .i64 m, .str p], .int .i64 c]) : AC Tryd.prog 18 [.str l] (dumpR l p c) := by
  by_cases hok : dmOk l
  · have h1 := hok.1
    have h2 := hok.2.1
    have h3 : (16 : Int) + 64 * ((rdB l 4).toNat : Int) ≤ l.length := by have := hok.2.2; unfold dmN at this; omega
    have g4 := rdB_get (l := l) (i := 4) (by omega)
    have u4 := (rdB l 4).toNat_lt
    have hread := iReadCart_ac (l.take (dmN l)) (by rw [List.length_take]; omega)
    rw [hr] at hread
    have hN : (16 + 64 * ((rdB l 4).toNat : Int)).toNat = dmN l := by unfold dmN; omega
    have hdl : (l.drop (dmN l)).length = l.length - dmN l := List.length_drop
    have htk : (l.drop (dmN l)).take (l.length - dmN l) = l.drop (dmN l) := List.take_of_length_le (by simp)
    have htk2 : ((l.length : Int) - (16 + 64 * ((rdB l 4).toNat : Int))).toNat = l.length - dmN l := by unfold dmN; omega
    by_cases hc : c = 0
    · have hp := readR_ok hr hc
      have hpl : p.length ≤ 1048576 := by have := hp.2; rw [List.length_take] at this; omega
      subst hc
      have hb := behind_ac (l.drop (dmN l)) p (by omega) ⟨hp.1, hpl⟩
      have hR : dumpR l p 0 = .tup [.str (l.take (dmN l)), .int .i64 (behR (l.drop (dmN l)) p), .int .i64 0] := by unfold dumpR; rw [if_pos hok, if_pos rfl]
      rw [hR]
      clear hok hR
      refine AC.of_run mo Tryd.func18 Tryd.call18 ⟨rfl, Tryd.ntmps18, Tryd.results18, by kernel_rfl⟩ rfl ?_
      repeat' (first | simp only [go_sem, ↓reduceIte, Nat.reduceEqDiff, Nat.reduceAdd, Nat.reduceMul, Nat.reduceSub, Nat.reduceLeDiff, Nat.reduceLT, Nat.reduceBEq, Nat.reduceBNe, Int.reduceLT, Int.reduceLE, Int.reduceEq, Int.reduceNeg, Int.reduceToNat, Int.toNat_natCast, Int.natCast_nonneg, List.length_append, List.length_map, List.length_replicate, Bool.and_eq_true, decide_eq_true_eq, List.length_take, List.length_drop, Int.reduceSub, Int.reduceAdd, Int.reduceMul, Int.sub_zero, Int.add_zero, Int.zero_add, reduceCtorEq, decide_true, decide_false, Bool.false_eq_true, List.reduceReplicate, *] | simp (disch := omega) only [wrap_i64, wrap_u8, Int.tdiv_eq_ediv_of_nonneg, Int.tmod_eq_emod_of_nonneg, if_pos] | (refine callP_0 (hread ..) (rfl) (rfl) ?_) | (refine callP_0 (hb ..) (rfl) (rfl) ?_) | (refine callX_ac (hread ..) (rfl) (rfl) ?_) | (refine callX_ac (hb ..) (rfl) (rfl) ?_) | refine callP_x ?_ | (refine ret_gen (by first | exact .inr rfl | exact .inl rfl) (rfl) ?_) | (refine guardP_split (fun _ => ?_) (fun _ => ?_)) | (refine condP_split (fun _ => ?_) (fun _ => ?_)) | (refine guardP_splitB (fun _ => ?_) (fun _ => ?_)) | (refine condP_splitB (fun _ => ?_) (fun _ => ?_)))
      all_goals omega
    · have hR : dumpR l p c = .tup [.str [], .int .i64 0, .int .i64 c] := by unfold dumpR; rw [if_pos hok, if_neg hc]
      rw [hR]
      clear hok hR
      refine AC.of_run mo Tryd.func18 Tryd.call18 ⟨rfl, Tryd.ntmps18, Tryd.results18, by kernel_rfl⟩ rfl ?_
      repeat' (first | simp only [go_sem, ↓reduceIte, Nat.reduceEqDiff, Nat.reduceAdd, Nat.reduceMul, Nat.reduceSub, Nat.reduceLeDiff, Nat.reduceLT, Nat.reduceBEq, Nat.reduceBNe, Int.reduceLT, Int.reduceLE, Int.reduceEq, Int.reduceNeg, Int.reduceToNat, Int.toNat_natCast, Int.natCast_nonneg, List.length_append, List.length_map, List.length_replicate, Bool.and_eq_true, decide_eq_true_eq, List.length_take, List.length_drop, Int.reduceSub, Int.reduceAdd, Int.reduceMul, Int.sub_zero, Int.add_zero, Int.zero_add, reduceCtorEq, decide_true, decide_false, Bool.false_eq_true, List.reduceReplicate, *] | simp (disch := omega) only [wrap_i64, wrap_u8, Int.tdiv_eq_ediv_of_nonneg, Int.tmod_eq_emod_of_nonneg, if_pos] | (refine callP_0 (hread ..) (rfl) (rfl) ?_) | (refine callX_ac (hread ..) (rfl) (rfl) ?_) | refine callP_x ?_ | (refine ret_gen (by first | exact .inr rfl | exact .inl rfl) (rfl) ?_) | (refine guardP_split (fun _ => ?_) (fun _ => ?_)) | (refine condP_split (fun _ => ?_) (fun _ => ?_)) | (refine guardP_splitB (fun _ => ?_) (fun _ => ?_)) | (refine condP_splitB (fun _ => ?_) (fun _ => ?_)))
      all_goals omega
  · have hR : dumpR l p c = .tup [.str [], .int .i64 0, .int .i64 7] := by unfold dumpR; rw [if_neg hok]
    rw [hR]
    by_cases h1 : 16 ≤ l.length ∧ l.length ≤ 4096
    · have h11 := h1.1
      have h12 := h1.2
      have h3 : (l.length : Int) < 16 + 64 * ((rdB l 4).toNat : Int) := by
        have : ¬ dmN l ≤ l.length := fun h => hok ⟨h1.1, h1.2, h⟩
        unfold dmN at this; omega
      have g4 := rdB_get (l := l) (i := 4) (by omega)
      have u4 := (rdB l 4).toNat_lt
      refine AC.of_run mo Tryd.func18 Tryd.call18 ⟨rfl, Tryd.ntmps18, Tryd.results18, by kernel_rfl⟩ rfl ?_
      repeat' (first | simp only [go_sem, ↓reduceIte, Nat.reduceEqDiff, Nat.reduceAdd, Nat.reduceMul, Nat.reduceSub, Nat.reduceLeDiff, Nat.reduceLT, Nat.reduceBEq, Nat.reduceBNe, Int.reduceLT, Int.reduceLE, Int.reduceEq, Int.reduceNeg, Int.reduceToNat, Int.toNat_natCast, Int.natCast_nonneg, List.length_append, List.length_map, List.length_replicate, Bool.and_eq_true, decide_eq_true_eq, List.length_take, List.length_drop, Int.reduceSub, Int.reduceAdd, Int.reduceMul, Int.sub_zero, Int.add_zero, Int.zero_add, reduceCtorEq, decide_true, decide_false, Bool.false_eq_true, List.reduceReplicate, *] | simp (disch := omega) only [wrap_i64, wrap_u8, Int.tdiv_eq_ediv_of_nonneg, Int.tmod_eq_emod_of_nonneg, if_pos] | refine callP_x ?_ | (refine ret_gen (by first | exact .inr rfl | exact .inl rfl) (rfl) ?_) | (refine guardP_split (fun _ => ?_) (fun _ => ?_)) | (refine condP_split (fun _ => ?_) (fun _ => ?_)) | (refine guardP_splitB (fun _ => ?_) (fun _ => ?_)) | (refine condP_splitB (fun _ => ?_) (fun _ => ?_)))
      all_goals omega
    · refine AC.of_run mo Tryd.func18 Tryd.call18 ⟨rfl, Tryd.ntmps18, Tryd.results18, by kernel_rfl⟩ rfl ?_
      repeat' (first | simp only [go_sem, ↓reduceIte, Nat.reduceEqDiff, Nat.reduceAdd, Nat.reduceMul, Nat.reduceSub, Nat.reduceLeDiff, Nat.reduceLT, Nat.reduceBEq, Nat.reduceBNe, Int.reduceLT, Int.reduceLE, Int.reduceEq, Int.reduceNeg, Int.reduceToNat, Int.toNat_natCast, Int.natCast_nonneg, List.length_append, List.length_map, List.length_replicate, Bool.and_eq_true, decide_eq_true_eq, List.length_take, List.length_drop, Int.reduceSub, Int.reduceAdd, Int.reduceMul, Int.sub_zero, Int.add_zero, Int.zero_add, reduceCtorEq, decide_true, decide_false, Bool.false_eq_true, List.reduceReplicate, *] | simp (disch := omega) only [wrap_i64, wrap_u8, Int.tdiv_eq_ediv_of_nonneg, Int.tmod_eq_emod_of_nonneg, if_pos] | refine callP_x ?_ | (refine ret_gen (by first | exact .inr rfl | exact .inl rfl) (rfl) ?_) | (refine guardP_split (fun _ => ?_) (fun _ => ?_)) | (refine condP_split (fun _ => ?_) (fun _ => ?_)) | (refine guardP_splitB (fun _ => ?_) (fun _ => ?_)) | (refine condP_splitB (fun _ => ?_) (fun _ => ?_)))
      all_goals omega
end
end Go.Ab
