/- The contracts of the functions that make patches. Conditions: none. -/
import Derived.Test.YtkpcbgoljkccbaaCVPatch
import Derived.Test.YtkpcbgoljkccbaaCCrc
namespace Go.Ab
open Go.RowKit Go.Proofs
set_option maxRecDepth 10000
set_option maxHeartbeats 4000000
set_option linter.unusedSimpArgs false
set_option linter.unusedVariables false
noncomputable section
attribute [local go_sem] hunkV_eq
def chgV (c : Int × Int) : AV := .agg [.int .i64 c.1, .int .i64 c.2]
theorem chgV_eq (c : Int × Int) : chgV c = .agg [.int .i64 c.1, .int .i64 c.2] := (rfl)
attribute [local go_sem] chgV_eq
def pushB (l : List UInt8) (x : Int) : List UInt8 := if x ≥ 0 then l ++ [UInt8.ofNat x.toNat] else l
def upd1 (h : HunkD) (c : Int × Int) : HunkD := ⟨h.pos, pushB h.old c.1, pushB h.new c.2⟩
def hstep (st : List HunkD × Option HunkD) (i : Nat) (c : Int × Int) : List HunkD × Option HunkD :=
  if c.1 = c.2 then (st.1 ++ st.2.toList, none) else (st.1, some (upd1 (st.2.getD ⟨i, [], []⟩) c))
def hrun (cs : List (Int × Int)) : Nat → List HunkD × Option HunkD
  | 0 => ([], none)
  | i + 1 => hstep (hrun cs i) i (cs.getD i (0, 0))
def hsTo (cs : List (Int × Int)) (i : Nat) : List HunkD := (hrun cs i).1 ++ (hrun cs i).2.toList
def hunksL (cs : List (Int × Int)) : List HunkD := hsTo cs cs.length
def okChg (c : Int × Int) : Prop := (-1 ≤ c.1 ∧ c.1 ≤ 255) ∧ (-1 ≤ c.2 ∧ c.2 ≤ 255)
theorem pushB_len (l : List UInt8) (x : Int) : (pushB l x).length ≤ l.length + 1 := by unfold pushB; split <;> simp
theorem hrun_len (cs : List (Int × Int)) : ∀ i, (hrun cs i).1.length + (hrun cs i).2.toList.length ≤ i ∧ ∀ h, (h ∈ (hrun cs i).1 ∨ h ∈ (hrun cs i).2) → h.old.length ≤ i ∧ h.new.length ≤ i
  | 0 => by simp [hrun]
  | i + 1 => by
    obtain ⟨h1, h2⟩ := hrun_len cs i
    simp only [hrun, hstep]
    generalize hrun cs i = st at h1 h2
    obtain ⟨L, o⟩ := st
    split
    · refine ⟨by simp at h1 ⊢; omega, fun h hh => ?_⟩
      have := h2 h (by simp at hh ⊢; exact hh)
      omega
    · refine ⟨by cases o <;> simp at h1 ⊢ <;> omega, fun h hh => ?_⟩
      rcases hh with hh | hh
      · have := h2 h (.inl hh); omega
      · simp only [Option.mem_def, Option.some.injEq] at hh
        subst hh
        have q1 := pushB_len ((o.getD ⟨i, [], []⟩).old) (cs.getD i (0, 0)).1
        have q2 := pushB_len ((o.getD ⟨i, [], []⟩).new) (cs.getD i (0, 0)).2
        have q3 : (o.getD ⟨i, [], []⟩).old.length ≤ i ∧ (o.getD ⟨i, [], []⟩).new.length ≤ i := by
          cases o with
          | none => simp
          | some h0 => exact h2 h0 (.inr rfl)
        simp only [upd1]
        omega
theorem hunksL_len (cs : List (Int × Int)) : (hunksL cs).length ≤ cs.length := by
  have := (hrun_len cs cs.length).1
  unfold hunksL hsTo
  rw [List.length_append]
  exact this
theorem chg_get {cs : List (Int × Int)} {i : Nat} (h : i < cs.length) : (cs.map chgV)[i]? = some (chgV (cs.getD i (0, 0))) := by
  simp [List.getD, List.getElem?_eq_getElem h]
theorem chg_mem {cs : List (Int × Int)} {i : Nat} (h : i < cs.length) {Q : Int × Int → Prop} (hq : ∀ c ∈ cs, Q c) : Q (cs.getD i (0, 0)) := by
  simp only [List.getD, List.getElem?_eq_getElem h, Option.getD_some]; exact hq _ (List.getElem_mem h)
theorem snoc_get {L : List HunkD} {x : AV} : (L.map hunkV ++ [x])[L.length]? = some x := by simp
theorem snoc_set {L : List HunkD} {x y : AV} : (L.map hunkV ++ [x]).set L.length y = L.map hunkV ++ [y] := by
  rw [List.set_append_right _ _ (by simp)]; simp
theorem hunksOf_ac (cs : List (Int × Int)) (hc : ∀ c ∈ cs, okChg c) (hl : cs.length ≤ 1048576) : AC Try.prog 117 [.lst (cs.map chgV)] (.own 3 ((hunksL cs).map hunkV)) := by
  refine AC.of_run mo Try.func117 Try.call117 ⟨rfl, Try.ntmps117, Try.results117, by kernel_rfl⟩ rfl ?_
  repeat' (first | simp only [go_sem, ↓reduceIte, Nat.reduceEqDiff, Nat.reduceAdd, Nat.reduceMul, Nat.reduceSub, Nat.reduceLeDiff, Nat.reduceLT, Nat.reduceBEq, Nat.reduceBNe, Int.reduceLT, Int.reduceLE, Int.reduceEq, Int.reduceNeg, Int.reduceToNat, Int.toNat_natCast, Int.natCast_nonneg, List.length_append, List.length_map, List.length_replicate, Bool.and_eq_true, decide_eq_true_eq, List.length_take, List.length_drop, Int.reduceSub, Int.reduceAdd, Int.reduceMul, Int.sub_zero, Int.add_zero, Int.zero_add, reduceCtorEq, decide_true, decide_false, Bool.false_eq_true, List.reduceReplicate, *] | simp (disch := omega) only [wrap_i64, wrap_u8, Int.tdiv_eq_ediv_of_nonneg, Int.tmod_eq_emod_of_nonneg, if_pos] | refine callP_x ?_ | (refine ret_gen (by first | exact .inr rfl | exact .inl rfl) (rfl) ?_) | (refine guardP_split (fun _ => ?_) (fun _ => ?_)) | (refine condP_split (fun _ => ?_) (fun _ => ?_)) | (refine guardP_splitB (fun _ => ?_) (fun _ => ?_)) | (refine condP_splitB (fun _ => ?_) (fun _ => ?_)))
  refine sx_loop (fun m s => ∃ i, i ≤ cs.length ∧ m = cs.length - i ∧ s.τ 4 = .bool (hrun cs i).2.isSome ∧ s.τ 8 = .lst (cs.map chgV) ∧ s.τ 9 = .int .i64 cs.length ∧ s.τ 10 = .int .i64 (i : Int) ∧ s.nx = 0 ∧
    ((s.τ 3 = .nil ∧ hrun cs i = ([], none)) ∨ ∃ g, s.τ 3 = .ref 9004 g 0 (hsTo cs i).length ∧ s.H 9004 = some ⟨3, (hsTo cs i).map hunkV, g, true⟩)) cs.length ⟨0, by simp [go_sem, hrun]⟩ ?_
  rintro m s ⟨i, hi, rfl, t4, t8, t9, t10, hnx, h3⟩
  simp only [go_sem, ↓reduceIte, Nat.reduceEqDiff, Nat.reduceAdd, Nat.reduceMul, Nat.reduceSub, Nat.reduceLeDiff, Nat.reduceLT, Nat.reduceBEq, Nat.reduceBNe, Int.reduceLT, Int.reduceLE, Int.reduceEq, Int.reduceNeg, Int.reduceToNat, Int.toNat_natCast, Int.natCast_nonneg, List.length_append, List.length_map, List.length_replicate, Bool.and_eq_true, decide_eq_true_eq, List.length_take, List.length_drop, Int.reduceSub, Int.reduceAdd, Int.reduceMul, Int.sub_zero, Int.add_zero, Int.zero_add, reduceCtorEq, decide_true, decide_false, Bool.false_eq_true, List.reduceReplicate, t4, t8, t9, t10, hnx]
  refine condP_split (fun h => ?_) (fun h => ?_)
  · have hlt : i < cs.length := by omega
    have hg := chg_get hlt
    have hok := chg_mem hlt hc
    have hlen := hrun_len cs i
    have hsucc : hrun cs (i + 1) = hstep (hrun cs i) i (cs.getD i (0, 0)) := rfl
    have hto : hsTo cs (i + 1) = (hrun cs (i + 1)).1 ++ (hrun cs (i + 1)).2.toList := rfl
    have hti : hsTo cs i = (hrun cs i).1 ++ (hrun cs i).2.toList := rfl
    rw [hsucc] at hto
    rw [hti] at h3
    clear hti
    generalize hrun cs i = st at *
    generalize cs.getD i (0, 0) = c at *
    obtain ⟨L, o⟩ := st
    obtain ⟨x, y⟩ := c
    simp only at t4 h3 hlen
    by_cases hxy : x = y
    · rw [hstep, if_pos hxy] at hsucc hto
      simp only [Option.toList_none, List.append_nil] at hto
      repeat' (first | simp only [go_sem, ↓reduceIte, Nat.reduceEqDiff, Nat.reduceAdd, Nat.reduceMul, Nat.reduceSub, Nat.reduceLeDiff, Nat.reduceLT, Nat.reduceBEq, Nat.reduceBNe, Int.reduceLT, Int.reduceLE, Int.reduceEq, Int.reduceNeg, Int.reduceToNat, Int.toNat_natCast, Int.natCast_nonneg, List.length_append, List.length_map, List.length_replicate, Bool.and_eq_true, decide_eq_true_eq, List.length_take, List.length_drop, Int.reduceSub, Int.reduceAdd, Int.reduceMul, Int.sub_zero, Int.add_zero, Int.zero_add, reduceCtorEq, decide_true, decide_false, Bool.false_eq_true, List.reduceReplicate, *] | simp (disch := omega) only [wrap_i64, wrap_u8, Int.tdiv_eq_ediv_of_nonneg, Int.tmod_eq_emod_of_nonneg, if_pos] | refine callP_x ?_ | (refine ret_gen (by first | exact .inr rfl | exact .inl rfl) (rfl) ?_) | (refine guardP_split (fun _ => ?_) (fun _ => ?_)) | (refine condP_split (fun _ => ?_) (fun _ => ?_)) | (refine guardP_splitB (fun _ => ?_) (fun _ => ?_)) | (refine condP_splitB (fun _ => ?_) (fun _ => ?_)))
      refine ⟨cs.length - (i + 1), by omega, i + 1, by omega, rfl, by rw [hsucc]; rfl, by simp only [Int.natCast_add, Int.cast_ofNat_Int], ?_⟩
      rw [hsucc, hto]
      rcases h3 with ⟨h3, h4⟩ | ⟨g, h3, hH⟩
      · cases h4
        exact .inl ⟨h3, rfl⟩
      · exact .inr ⟨g, h3, hH⟩
    · have hxy' : (decide (x = y)) = false := decide_eq_false hxy
      rw [hstep, if_neg hxy] at hsucc hto
      have hso : (hrun cs (i + 1)).2.isSome = true := by rw [hsucc]; rfl
      have hsg : ∀ x, (L.map hunkV ++ [x])[L.length]? = some x := fun x => snoc_get
      have hss : ∀ x y, (L.map hunkV ++ [x]).set L.length y = L.map hunkV ++ [y] := fun x y => snoc_set
      have hLl : L.length ≤ i := by omega
      have e1 : (((L.length + 1 : Nat) : Int) - 1).toNat = L.length := by omega
      have e2 : 0 ≤ ((L.length + 1 : Nat) : Int) - 1 := by omega
      have e3 : ((L.length + 1 : Nat) : Int) - 1 < ((L.length + 1 : Nat) : Int) := by omega
      have hok1 : (-1 ≤ x ∧ x ≤ 255) := hok.1
      have hok2 : (-1 ≤ y ∧ y ≤ 255) := hok.2
      cases o with
      | some h0 =>
        rcases h3 with ⟨_, h3⟩ | ⟨g, h3, hH⟩
        · cases h3
        · simp only [Option.toList_some, List.length_append, List.map_append, List.length_cons, List.length_nil, List.map_cons, List.map_nil, Option.isSome_some] at h3 hH t4
          have hb0 := hlen.2 h0 (.inr rfl)
          clear hlen
          simp only [Option.getD_some] at hsucc hto
          repeat' (first | simp only [go_sem, ↓reduceIte, Nat.reduceEqDiff, Nat.reduceAdd, Nat.reduceMul, Nat.reduceSub, Nat.reduceLeDiff, Nat.reduceLT, Nat.reduceBEq, Nat.reduceBNe, Int.reduceLT, Int.reduceLE, Int.reduceEq, Int.reduceNeg, Int.reduceToNat, Int.toNat_natCast, Int.natCast_nonneg, List.length_append, List.length_map, List.length_replicate, Bool.and_eq_true, decide_eq_true_eq, List.length_take, List.length_drop, Int.reduceSub, Int.reduceAdd, Int.reduceMul, Int.sub_zero, Int.add_zero, Int.zero_add, reduceCtorEq, decide_true, decide_false, Bool.false_eq_true, List.reduceReplicate, *] | simp (disch := omega) only [wrap_i64, wrap_u8, Int.tdiv_eq_ediv_of_nonneg, Int.tmod_eq_emod_of_nonneg, if_pos] | refine callP_x ?_ | (refine ret_gen (by first | exact .inr rfl | exact .inl rfl) (rfl) ?_) | (refine guardP_split (fun _ => ?_) (fun _ => ?_)) | (refine condP_split (fun _ => ?_) (fun _ => ?_)) | (refine guardP_splitB (fun _ => ?_) (fun _ => ?_)) | (refine condP_splitB (fun _ => ?_) (fun _ => ?_)))
          all_goals (
            refine ⟨cs.length - (i + 1), by omega, i + 1, by omega, rfl, by rw [hso], by simp only [Int.natCast_add, Int.cast_ofNat_Int], _, by rw [hto]; simp only [Option.toList_some, List.length_append, List.length_cons, List.length_nil]; rfl, ?_⟩
            rw [hto]
            simp only [Option.toList_some, List.map_append, List.map_cons, List.map_nil, hunkV_eq, upd1, pushB, ge_iff_le, List.nil_append, *, if_true, if_false])
      | none =>
        rcases h3 with ⟨h3, h4⟩ | ⟨g, h3, hH⟩
        · cases h4
          simp only [Option.isSome_none] at t4
          clear hlen
          have c1 : ((1 : Nat) : Int) = 1 := rfl
          simp only [Option.getD_none] at hsucc hto
          repeat' (first | simp only [go_sem, ↓reduceIte, Nat.reduceEqDiff, Nat.reduceAdd, Nat.reduceMul, Nat.reduceSub, Nat.reduceLeDiff, Nat.reduceLT, Nat.reduceBEq, Nat.reduceBNe, Int.reduceLT, Int.reduceLE, Int.reduceEq, Int.reduceNeg, Int.reduceToNat, Int.toNat_natCast, Int.natCast_nonneg, List.length_append, List.length_map, List.length_replicate, Bool.and_eq_true, decide_eq_true_eq, List.length_take, List.length_drop, Int.reduceSub, Int.reduceAdd, Int.reduceMul, Int.sub_zero, Int.add_zero, Int.zero_add, reduceCtorEq, decide_true, decide_false, Bool.false_eq_true, List.reduceReplicate, *] | simp (disch := omega) only [wrap_i64, wrap_u8, Int.tdiv_eq_ediv_of_nonneg, Int.tmod_eq_emod_of_nonneg, if_pos] | refine callP_x ?_ | (refine ret_gen (by first | exact .inr rfl | exact .inl rfl) (rfl) ?_) | (refine guardP_split (fun _ => ?_) (fun _ => ?_)) | (refine condP_split (fun _ => ?_) (fun _ => ?_)) | (refine guardP_splitB (fun _ => ?_) (fun _ => ?_)) | (refine condP_splitB (fun _ => ?_) (fun _ => ?_)))
          all_goals (
            refine ⟨cs.length - (i + 1), by omega, i + 1, by omega, rfl, by rw [hso], by simp only [Int.natCast_add, Int.cast_ofNat_Int], ngenB (s.H 9004), by rw [hto]; simp only [Option.toList_some, List.length_append, List.length_cons, List.length_nil], ?_⟩
            rw [hto]
            simp only [Option.toList_some, List.map_append, List.map_cons, List.map_nil, hunkV_eq, upd1, pushB, ge_iff_le, List.nil_append, *, if_true, if_false])
        · simp only [Option.toList_none, List.append_nil, Option.isSome_none] at h3 hH t4
          clear hlen
          simp only [Option.getD_none] at hsucc hto
          repeat' (first | simp only [go_sem, ↓reduceIte, Nat.reduceEqDiff, Nat.reduceAdd, Nat.reduceMul, Nat.reduceSub, Nat.reduceLeDiff, Nat.reduceLT, Nat.reduceBEq, Nat.reduceBNe, Int.reduceLT, Int.reduceLE, Int.reduceEq, Int.reduceNeg, Int.reduceToNat, Int.toNat_natCast, Int.natCast_nonneg, List.length_append, List.length_map, List.length_replicate, Bool.and_eq_true, decide_eq_true_eq, List.length_take, List.length_drop, Int.reduceSub, Int.reduceAdd, Int.reduceMul, Int.sub_zero, Int.add_zero, Int.zero_add, reduceCtorEq, decide_true, decide_false, Bool.false_eq_true, List.reduceReplicate, *] | simp (disch := omega) only [wrap_i64, wrap_u8, Int.tdiv_eq_ediv_of_nonneg, Int.tmod_eq_emod_of_nonneg, if_pos] | refine callP_x ?_ | (refine ret_gen (by first | exact .inr rfl | exact .inl rfl) (rfl) ?_) | (refine guardP_split (fun _ => ?_) (fun _ => ?_)) | (refine condP_split (fun _ => ?_) (fun _ => ?_)) | (refine guardP_splitB (fun _ => ?_) (fun _ => ?_)) | (refine condP_splitB (fun _ => ?_) (fun _ => ?_)))
          all_goals (
            refine ⟨cs.length - (i + 1), by omega, i + 1, by omega, rfl, by rw [hso], by simp only [Int.natCast_add, Int.cast_ofNat_Int], _, by rw [hto]; simp only [Option.toList_some, List.length_append, List.length_cons, List.length_nil]; rfl, ?_⟩
            rw [hto]
            simp only [Option.toList_some, List.map_append, List.map_cons, List.map_nil, hunkV_eq, upd1, pushB, ge_iff_le, List.nil_append, *, if_true, if_false])
  · have e : i = cs.length := by omega
    subst e
    repeat' (first | simp only [go_sem, ↓reduceIte, Nat.reduceEqDiff, Nat.reduceAdd, Nat.reduceMul, Nat.reduceSub, Nat.reduceLeDiff, Nat.reduceLT, Nat.reduceBEq, Nat.reduceBNe, Int.reduceLT, Int.reduceLE, Int.reduceEq, Int.reduceNeg, Int.reduceToNat, Int.toNat_natCast, Int.natCast_nonneg, List.length_append, List.length_map, List.length_replicate, Bool.and_eq_true, decide_eq_true_eq, List.length_take, List.length_drop, Int.reduceSub, Int.reduceAdd, Int.reduceMul, Int.sub_zero, Int.add_zero, Int.zero_add, reduceCtorEq, decide_true, decide_false, Bool.false_eq_true, List.reduceReplicate, *] | simp (disch := omega) only [wrap_i64, wrap_u8, Int.tdiv_eq_ediv_of_nonneg, Int.tmod_eq_emod_of_nonneg, if_pos] | refine callP_x ?_ | (refine ret_gen (by first | exact .inr rfl | exact .inl rfl) (rfl) ?_) | (refine guardP_split (fun _ => ?_) (fun _ => ?_)) | (refine condP_split (fun _ => ?_) (fun _ => ?_)) | (refine guardP_splitB (fun _ => ?_) (fun _ => ?_)) | (refine condP_splitB (fun _ => ?_) (fun _ => ?_)))
    rcases h3 with ⟨h3, h4⟩ | ⟨g, h3, hH⟩
    · rw [h3, show hunksL cs = [] by unfold hunksL hsTo; rw [h4]; rfl]
      exact RDs_1 none RD1_nil
    · rw [h3]
      exact own_map hH rfl fun a => rfl
def bAt (l : List UInt8) (i : Nat) : Int := match l[i]? with
  | some b => (b.toNat : Int)
  | none => -1
theorem bAt_lt {l : List UInt8} {i : Nat} (h : i < l.length) : bAt l i = ((l[i].toNat : Nat) : Int) := by unfold bAt; rw [List.getElem?_eq_getElem h]
theorem bAt_ge {l : List UInt8} {i : Nat} (h : ¬ i < l.length) : bAt l i = -1 := by unfold bAt; rw [List.getElem?_eq_none (by omega)]
theorem bAt_in (l : List UInt8) (i : Nat) : -1 ≤ bAt l i ∧ bAt l i ≤ 255 := by
  unfold bAt
  split
  · rename_i b _
    have := b.toNat_lt
    omega
  · omega
theorem byteAt_ac (l : List UInt8) (i : Nat) : AC Try.prog 115 [.str l, .int .i64 (i : Int)] (.int .i64 (bAt l i)) := by
  by_cases h : i < l.length
  · rw [bAt_lt h]
    have hg := List.getElem?_eq_getElem h
    have hu := (l[i]).toNat_lt
    refine AC.of_run mo Try.func115 Try.call115 ⟨rfl, Try.ntmps115, Try.results115, by kernel_rfl⟩ rfl ?_
    repeat' (first | simp only [go_sem, ↓reduceIte, Nat.reduceEqDiff, Nat.reduceAdd, Nat.reduceMul, Nat.reduceSub, Nat.reduceLeDiff, Nat.reduceLT, Nat.reduceBEq, Nat.reduceBNe, Int.reduceLT, Int.reduceLE, Int.reduceEq, Int.reduceNeg, Int.reduceToNat, Int.toNat_natCast, Int.natCast_nonneg, List.length_append, List.length_map, List.length_replicate, Bool.and_eq_true, decide_eq_true_eq, List.length_take, List.length_drop, Int.reduceSub, Int.reduceAdd, Int.reduceMul, Int.sub_zero, Int.add_zero, Int.zero_add, reduceCtorEq, decide_true, decide_false, Bool.false_eq_true, List.reduceReplicate, *] | simp (disch := omega) only [wrap_i64, wrap_u8, Int.tdiv_eq_ediv_of_nonneg, Int.tmod_eq_emod_of_nonneg, if_pos] | refine callP_x ?_ | (refine ret_gen (by first | exact .inr rfl | exact .inl rfl) (rfl) ?_) | (refine guardP_split (fun _ => ?_) (fun _ => ?_)) | (refine condP_split (fun _ => ?_) (fun _ => ?_)) | (refine guardP_splitB (fun _ => ?_) (fun _ => ?_)) | (refine condP_splitB (fun _ => ?_) (fun _ => ?_)))
    all_goals omega
  · rw [bAt_ge h]
    refine AC.of_run mo Try.func115 Try.call115 ⟨rfl, Try.ntmps115, Try.results115, by kernel_rfl⟩ rfl ?_
    repeat' (first | simp only [go_sem, ↓reduceIte, Nat.reduceEqDiff, Nat.reduceAdd, Nat.reduceMul, Nat.reduceSub, Nat.reduceLeDiff, Nat.reduceLT, Nat.reduceBEq, Nat.reduceBNe, Int.reduceLT, Int.reduceLE, Int.reduceEq, Int.reduceNeg, Int.reduceToNat, Int.toNat_natCast, Int.natCast_nonneg, List.length_append, List.length_map, List.length_replicate, Bool.and_eq_true, decide_eq_true_eq, List.length_take, List.length_drop, Int.reduceSub, Int.reduceAdd, Int.reduceMul, Int.sub_zero, Int.add_zero, Int.zero_add, reduceCtorEq, decide_true, decide_false, Bool.false_eq_true, List.reduceReplicate, *] | simp (disch := omega) only [wrap_i64, wrap_u8, Int.tdiv_eq_ediv_of_nonneg, Int.tmod_eq_emod_of_nonneg, if_pos] | refine callP_x ?_ | (refine ret_gen (by first | exact .inr rfl | exact .inl rfl) (rfl) ?_) | (refine guardP_split (fun _ => ?_) (fun _ => ?_)) | (refine condP_split (fun _ => ?_) (fun _ => ?_)) | (refine guardP_splitB (fun _ => ?_) (fun _ => ?_)) | (refine condP_splitB (fun _ => ?_) (fun _ => ?_)))
    all_goals omega
theorem l29At_ac (l : List UInt8) (i : Nat) : AC Try.prog 113 [.str l, .int .i64 (i : Int)] (.int .i64 (bAt l i)) := by
  by_cases h : i < l.length
  · rw [bAt_lt h]
    have hg := List.getElem?_eq_getElem h
    have hu := (l[i]).toNat_lt
    refine AC.of_run mo Try.func113 Try.call113 ⟨rfl, Try.ntmps113, Try.results113, by kernel_rfl⟩ rfl ?_
    repeat' (first | simp only [go_sem, ↓reduceIte, Nat.reduceEqDiff, Nat.reduceAdd, Nat.reduceMul, Nat.reduceSub, Nat.reduceLeDiff, Nat.reduceLT, Nat.reduceBEq, Nat.reduceBNe, Int.reduceLT, Int.reduceLE, Int.reduceEq, Int.reduceNeg, Int.reduceToNat, Int.toNat_natCast, Int.natCast_nonneg, List.length_append, List.length_map, List.length_replicate, Bool.and_eq_true, decide_eq_true_eq, List.length_take, List.length_drop, Int.reduceSub, Int.reduceAdd, Int.reduceMul, Int.sub_zero, Int.add_zero, Int.zero_add, reduceCtorEq, decide_true, decide_false, Bool.false_eq_true, List.reduceReplicate, *] | simp (disch := omega) only [wrap_i64, wrap_u8, Int.tdiv_eq_ediv_of_nonneg, Int.tmod_eq_emod_of_nonneg, if_pos] | refine callP_x ?_ | (refine ret_gen (by first | exact .inr rfl | exact .inl rfl) (rfl) ?_) | (refine guardP_split (fun _ => ?_) (fun _ => ?_)) | (refine condP_split (fun _ => ?_) (fun _ => ?_)) | (refine guardP_splitB (fun _ => ?_) (fun _ => ?_)) | (refine condP_splitB (fun _ => ?_) (fun _ => ?_)))
    all_goals omega
  · rw [bAt_ge h]
    refine AC.of_run mo Try.func113 Try.call113 ⟨rfl, Try.ntmps113, Try.results113, by kernel_rfl⟩ rfl ?_
    repeat' (first | simp only [go_sem, ↓reduceIte, Nat.reduceEqDiff, Nat.reduceAdd, Nat.reduceMul, Nat.reduceSub, Nat.reduceLeDiff, Nat.reduceLT, Nat.reduceBEq, Nat.reduceBNe, Int.reduceLT, Int.reduceLE, Int.reduceEq, Int.reduceNeg, Int.reduceToNat, Int.toNat_natCast, Int.natCast_nonneg, List.length_append, List.length_map, List.length_replicate, Bool.and_eq_true, decide_eq_true_eq, List.length_take, List.length_drop, Int.reduceSub, Int.reduceAdd, Int.reduceMul, Int.sub_zero, Int.add_zero, Int.zero_add, reduceCtorEq, decide_true, decide_false, Bool.false_eq_true, List.reduceReplicate, *] | simp (disch := omega) only [wrap_i64, wrap_u8, Int.tdiv_eq_ediv_of_nonneg, Int.tmod_eq_emod_of_nonneg, if_pos] | refine callP_x ?_ | (refine ret_gen (by first | exact .inr rfl | exact .inl rfl) (rfl) ?_) | (refine guardP_split (fun _ => ?_) (fun _ => ?_)) | (refine condP_split (fun _ => ?_) (fun _ => ?_)) | (refine guardP_splitB (fun _ => ?_) (fun _ => ?_)) | (refine condP_splitB (fun _ => ?_) (fun _ => ?_)))
    all_goals omega
def chgs (a b : List UInt8) (n : Nat) : List (Int × Int) := (List.range n).map fun i => (bAt a i, bAt b i)
theorem chgs_succ (a b : List UInt8) (n : Nat) : chgs a b (n + 1) = chgs a b n ++ [(bAt a n, bAt b n)] := by simp [chgs, List.range_succ]
theorem chgs_len (a b : List UInt8) (n : Nat) : (chgs a b n).length = n := by simp [chgs]
theorem chgs_ok (a b : List UInt8) (n : Nat) : ∀ c ∈ chgs a b n, okChg c := by
  intro c hc
  simp only [chgs, List.mem_map] at hc
  obtain ⟨i, _, rfl⟩ := hc
  exact ⟨bAt_in a i, bAt_in b i⟩
def mkPatch (a b : List UInt8) : PatchD := ⟨a.length, b.length, crcL 65535 a, crcL 65535 b, hunksL (chgs a b (max a.length b.length))⟩
theorem fill_set {L : List (Int × Int)} {n i : Nat} {x y : Int} (hl : L.length = i) (h : i < n) : (L.map chgV ++ List.replicate (n - i) (AV.agg [.int .i64 0, .int .i64 0])).set i (.agg [.int .i64 x, .int .i64 y]) = (L ++ [(x, y)]).map chgV ++ List.replicate (n - (i + 1)) (AV.agg [.int .i64 0, .int .i64 0]) := by
  have e : n - i = (n - (i + 1)) + 1 := by omega
  subst hl
  rw [List.set_append_right _ _ (by simp), List.length_map, Nat.sub_self, e, List.replicate_succ, List.set_cons_zero]
  simp [chgV]
theorem fill_get {L : List (Int × Int)} {n i : Nat} (hl : L.length = i) (h : i < n) : (L.map chgV ++ List.replicate (n - i) (AV.agg [.int .i64 0, .int .i64 0]))[i]? = some (.agg [.int .i64 0, .int .i64 0]) := by
  subst hl
  rw [List.getElem?_append_right (by simp), List.length_map, Nat.sub_self, List.getElem?_replicate, if_pos (by omega)]
theorem makePatch_ac (a b : List UInt8) (ha : a.length ≤ 512) (hb : b.length ≤ 512) : AC Try.prog 80 [.str a, .str b] (.agg [.int .i64 a.length, .int .i64 b.length, .int .i64 (crcL 65535 a : Nat), .int .i64 (crcL 65535 b : Nat), .own 3 ((hunksL (chgs a b (max a.length b.length))).map hunkV)]) := by
  have hmx : (if (b.length : Int) > a.length then (b.length : Int) else a.length) = ((max a.length b.length : Nat) : Int) := by split <;> omega
  have hmx1 : max a.length b.length ≤ 512 := by omega
  refine AC.of_run mo Try.func80 Try.call80 ⟨rfl, Try.ntmps80, Try.results80, by kernel_rfl⟩ rfl ?_
  generalize max a.length b.length = n at *
  repeat' (first | simp only [go_sem, ↓reduceIte, Nat.reduceEqDiff, Nat.reduceAdd, Nat.reduceMul, Nat.reduceSub, Nat.reduceLeDiff, Nat.reduceLT, Nat.reduceBEq, Nat.reduceBNe, Int.reduceLT, Int.reduceLE, Int.reduceEq, Int.reduceNeg, Int.reduceToNat, Int.toNat_natCast, Int.natCast_nonneg, List.length_append, List.length_map, List.length_replicate, Bool.and_eq_true, decide_eq_true_eq, List.length_take, List.length_drop, Int.reduceSub, Int.reduceAdd, Int.reduceMul, Int.sub_zero, Int.add_zero, Int.zero_add, reduceCtorEq, decide_true, decide_false, Bool.false_eq_true, List.reduceReplicate, *] | simp (disch := omega) only [wrap_i64, wrap_u8, Int.tdiv_eq_ediv_of_nonneg, Int.tmod_eq_emod_of_nonneg, if_pos] | refine callP_x ?_ | (refine ret_gen (by first | exact .inr rfl | exact .inl rfl) (rfl) ?_) | (refine guardP_split (fun _ => ?_) (fun _ => ?_)) | (refine condP_split (fun _ => ?_) (fun _ => ?_)) | (refine guardP_splitB (fun _ => ?_) (fun _ => ?_)) | (refine condP_splitB (fun _ => ?_) (fun _ => ?_)))
  refine sx_loop (fun m s => ∃ i, i ≤ n ∧ m = n - i ∧ s.τ 0 = .str a ∧ s.τ 1 = .str b ∧ s.τ 4 = .ptr 0 0 0 0 ∧ s.τ 5 = .ref 1005 0 0 n ∧ s.τ 14 = .int .i64 n ∧ s.τ 15 = .int .i64 (i : Int) ∧ s.nx = 0 ∧
    s.H 0 = some ⟨5, [.agg [.int .i64 0, .int .i64 0, .int .i64 0, .int .i64 0, .nil]], 0, true⟩ ∧
    s.H 1005 = some ⟨2, (chgs a b i).map chgV ++ List.replicate (n - i) (.agg [.int .i64 0, .int .i64 0]), 0, true⟩) n ⟨0, by simp [go_sem, chgs, hmx]⟩ ?_
  rintro m s ⟨i, hi, rfl, t0, t1, t4, t5, t14, t15, hnx, hH0, hH⟩
  simp only [go_sem, ↓reduceIte, Nat.reduceEqDiff, Nat.reduceAdd, Nat.reduceMul, Nat.reduceSub, Nat.reduceLeDiff, Nat.reduceLT, Nat.reduceBEq, Nat.reduceBNe, Int.reduceLT, Int.reduceLE, Int.reduceEq, Int.reduceNeg, Int.reduceToNat, Int.toNat_natCast, Int.natCast_nonneg, List.length_append, List.length_map, List.length_replicate, Bool.and_eq_true, decide_eq_true_eq, List.length_take, List.length_drop, Int.reduceSub, Int.reduceAdd, Int.reduceMul, Int.sub_zero, Int.add_zero, Int.zero_add, reduceCtorEq, decide_true, decide_false, Bool.false_eq_true, List.reduceReplicate, t0, t1, t4, t5, t14, t15, hnx, hH0]
  refine condP_split (fun h => ?_) (fun h => ?_)
  · have hlt : i < n := by omega
    have hg := fill_get (L := chgs a b i) (n := n) (chgs_len a b i) hlt
    have hs := fill_set (L := chgs a b i) (n := n) (x := bAt a i) (y := bAt b i) (chgs_len a b i) hlt
    have hcl := chgs_len a b i
    have hnn : i + (n - i) = n := by omega
    repeat' (first | simp only [go_sem, ↓reduceIte, Nat.reduceEqDiff, Nat.reduceAdd, Nat.reduceMul, Nat.reduceSub, Nat.reduceLeDiff, Nat.reduceLT, Nat.reduceBEq, Nat.reduceBNe, Int.reduceLT, Int.reduceLE, Int.reduceEq, Int.reduceNeg, Int.reduceToNat, Int.toNat_natCast, Int.natCast_nonneg, List.length_append, List.length_map, List.length_replicate, Bool.and_eq_true, decide_eq_true_eq, List.length_take, List.length_drop, Int.reduceSub, Int.reduceAdd, Int.reduceMul, Int.sub_zero, Int.add_zero, Int.zero_add, reduceCtorEq, decide_true, decide_false, Bool.false_eq_true, List.reduceReplicate, *] | simp (disch := omega) only [wrap_i64, wrap_u8, Int.tdiv_eq_ediv_of_nonneg, Int.tmod_eq_emod_of_nonneg, if_pos] | (refine callP_0 (byteAt_ac a i) (rfl) (rfl) ?_) | (refine callP_0 (byteAt_ac b i) (rfl) (rfl) ?_) | (refine callX_ac (byteAt_ac a i) (rfl) (rfl) ?_) | (refine callX_ac (byteAt_ac b i) (rfl) (rfl) ?_) | refine callP_x ?_ | (refine ret_gen (by first | exact .inr rfl | exact .inl rfl) (rfl) ?_) | (refine guardP_split (fun _ => ?_) (fun _ => ?_)) | (refine condP_split (fun _ => ?_) (fun _ => ?_)) | (refine guardP_splitB (fun _ => ?_) (fun _ => ?_)) | (refine condP_splitB (fun _ => ?_) (fun _ => ?_)))
    rw [← chgs_succ]
    exact ⟨n - (i + 1), by omega, i + 1, by omega, rfl, by simp only [Int.natCast_add, Int.cast_ofNat_Int], rfl⟩
  · have e : i = n := by omega
    subst e
    rw [Nat.sub_self, List.replicate_zero, List.append_nil] at hH
    have hho := hunksOf_ac (chgs a b i) (chgs_ok a b i) (by rw [chgs_len]; omega)
    have c1 := iCrc_ac a 65535 (by decide) (by omega)
    have c2 := iCrc_ac b 65535 (by decide) (by omega)
    have c3 : ((65535 : Nat) : Int) = 65535 := rfl
    rw [c3] at c1 c2
    have hcl := chgs_len a b i
    have hdl : ∀ g, dl g ((chgs a b i).map chgV) = some ((chgs a b i).map chgV) := fun g => dl_map fun c => rfl
    have htk : ((chgs a b i).map chgV).take i = (chgs a b i).map chgV := List.take_of_length_le (by simp [chgs_len])
    have f1 : freeze [1005] s.H 1005 = some ⟨2, (chgs a b i).map chgV, 0, false⟩ := by simp [freeze, hH]
    have f2 : freeze [1005] s.H 0 = s.H 0 := by simp [freeze]
    repeat' (first | simp only [go_sem, ↓reduceIte, Nat.reduceEqDiff, Nat.reduceAdd, Nat.reduceMul, Nat.reduceSub, Nat.reduceLeDiff, Nat.reduceLT, Nat.reduceBEq, Nat.reduceBNe, Int.reduceLT, Int.reduceLE, Int.reduceEq, Int.reduceNeg, Int.reduceToNat, Int.toNat_natCast, Int.natCast_nonneg, List.length_append, List.length_map, List.length_replicate, Bool.and_eq_true, decide_eq_true_eq, List.length_take, List.length_drop, Int.reduceSub, Int.reduceAdd, Int.reduceMul, Int.sub_zero, Int.add_zero, Int.zero_add, reduceCtorEq, decide_true, decide_false, Bool.false_eq_true, List.reduceReplicate, *] | simp (disch := omega) only [wrap_i64, wrap_u8, Int.tdiv_eq_ediv_of_nonneg, Int.tmod_eq_emod_of_nonneg, if_pos] | (refine callP_ac [1005] true ?_ (hho) (.inl rfl) (rfl) ?_) | (refine callP_0 (c1 ..) (rfl) (rfl) ?_) | (refine callP_0 (c2 ..) (rfl) (rfl) ?_) | (refine callX_ac (c1 ..) (rfl) (rfl) ?_) | (refine callX_ac (c2 ..) (rfl) (rfl) ?_) | refine callP_x ?_ | (refine ret_gen (by first | exact .inr rfl | exact .inl rfl) (rfl) ?_) | (refine guardP_split (fun _ => ?_) (fun _ => ?_)) | (refine condP_split (fun _ => ?_) (fun _ => ?_)) | (refine guardP_splitB (fun _ => ?_) (fun _ => ?_)) | (refine condP_splitB (fun _ => ?_) (fun _ => ?_)))
    exact RDs_1 (some 7009) (RD1_aggO ⟨RDc_int rfl, RDc_int rfl, RDc_int rfl, RDc_int rfl, own_mapC (by simp only [go_sem, ↓reduceIte, Nat.reduceEqDiff, Nat.reduceAdd, Nat.reduceMul, Nat.reduceSub, Nat.reduceLeDiff, Nat.reduceLT, Nat.reduceBEq, Nat.reduceBNe, Int.reduceLT, Int.reduceLE, Int.reduceEq, Int.reduceNeg, Int.reduceToNat, Int.toNat_natCast, Int.natCast_nonneg, List.length_append, List.length_map, List.length_replicate, Bool.and_eq_true, decide_eq_true_eq, List.length_take, List.length_drop, Int.reduceSub, Int.reduceAdd, Int.reduceMul, Int.sub_zero, Int.add_zero, Int.zero_add, reduceCtorEq, decide_true, decide_false, Bool.false_eq_true, List.reduceReplicate]) rfl (fun a => rfl), trivial⟩)
def pMax (a b : List UInt8) : Prop := a.length ≤ 512 ∧ b.length ≤ 512
theorem iMakeBad_ac (a b : List UInt8) (h : ¬ pMax a b) : AC Try.prog 44 [.str a, .str b] (.tup [.agg [.int .i64 0, .int .i64 0, .int .i64 0, .int .i64 0, .own 3 []], .int .i64 2]) := by
  unfold pMax at h
  refine AC.of_run mo Try.func44 Try.call44 ⟨rfl, Try.ntmps44, Try.results44, by kernel_rfl⟩ rfl ?_
  repeat' (first | simp only [go_sem, ↓reduceIte, Nat.reduceEqDiff, Nat.reduceAdd, Nat.reduceMul, Nat.reduceSub, Nat.reduceLeDiff, Nat.reduceLT, Nat.reduceBEq, Nat.reduceBNe, Int.reduceLT, Int.reduceLE, Int.reduceEq, Int.reduceNeg, Int.reduceToNat, Int.toNat_natCast, Int.natCast_nonneg, List.length_append, List.length_map, List.length_replicate, Bool.and_eq_true, decide_eq_true_eq, List.length_take, List.length_drop, Int.reduceSub, Int.reduceAdd, Int.reduceMul, Int.sub_zero, Int.add_zero, Int.zero_add, reduceCtorEq, decide_true, decide_false, Bool.false_eq_true, List.reduceReplicate, *] | simp (disch := omega) only [wrap_i64, wrap_u8, Int.tdiv_eq_ediv_of_nonneg, Int.tmod_eq_emod_of_nonneg, if_pos] | refine callP_x ?_ | (refine ret_gen (by first | exact .inr rfl | exact .inl rfl) (rfl) ?_) | (refine guardP_split (fun _ => ?_) (fun _ => ?_)) | (refine condP_split (fun _ => ?_) (fun _ => ?_)) | (refine guardP_splitB (fun _ => ?_) (fun _ => ?_)) | (refine condP_splitB (fun _ => ?_) (fun _ => ?_)))
  all_goals first
    | (exfalso; omega)
    | exact RDs_2 none (RD1_aggO ⟨RDc_int rfl, RDc_int rfl, RDc_int rfl, RDc_int rfl, RDc_nil, trivial⟩) (RD1_int rfl)
theorem iMakePatch_ac (a b : List UInt8) (h : pMax a b) : AC Try.prog 44 [.str a, .str b] (.tup [.agg [.int .i64 a.length, .int .i64 b.length, .int .i64 (crcL 65535 a : Nat), .int .i64 (crcL 65535 b : Nat), .own 3 ((hunksL (chgs a b (max a.length b.length))).map hunkV)], .int .i64 0]) := by
  have hm := makePatch_ac a b h.1 h.2
  unfold pMax at h
  refine AC.of_run mo Try.func44 Try.call44 ⟨rfl, Try.ntmps44, Try.results44, by kernel_rfl⟩ rfl ?_
  repeat' (first | simp only [go_sem, ↓reduceIte, Nat.reduceEqDiff, Nat.reduceAdd, Nat.reduceMul, Nat.reduceSub, Nat.reduceLeDiff, Nat.reduceLT, Nat.reduceBEq, Nat.reduceBNe, Int.reduceLT, Int.reduceLE, Int.reduceEq, Int.reduceNeg, Int.reduceToNat, Int.toNat_natCast, Int.natCast_nonneg, List.length_append, List.length_map, List.length_replicate, Bool.and_eq_true, decide_eq_true_eq, List.length_take, List.length_drop, Int.reduceSub, Int.reduceAdd, Int.reduceMul, Int.sub_zero, Int.add_zero, Int.zero_add, reduceCtorEq, decide_true, decide_false, Bool.false_eq_true, List.reduceReplicate, *] | simp (disch := omega) only [wrap_i64, wrap_u8, Int.tdiv_eq_ediv_of_nonneg, Int.tmod_eq_emod_of_nonneg, if_pos] | (refine callP_0 (hm ..) (rfl) (rfl) ?_) | (refine callX_ac (hm ..) (rfl) (rfl) ?_) | refine callP_x ?_ | (refine ret_gen (by first | exact .inr rfl | exact .inl rfl) (rfl) ?_) | (refine guardP_split (fun _ => ?_) (fun _ => ?_)) | (refine condP_split (fun _ => ?_) (fun _ => ?_)) | (refine guardP_splitB (fun _ => ?_) (fun _ => ?_)) | (refine condP_splitB (fun _ => ?_) (fun _ => ?_)))
  all_goals first
    | (exfalso; omega)
    | exact RDs_2 (some 3002) (RD1_aggO ⟨RDc_int rfl, RDc_int rfl, RDc_int rfl, RDc_int rfl, own_mapC (by simp only [go_sem, ↓reduceIte, Nat.reduceEqDiff, Nat.reduceAdd, Nat.reduceMul, Nat.reduceSub, Nat.reduceLeDiff, Nat.reduceLT, Nat.reduceBEq, Nat.reduceBNe, Int.reduceLT, Int.reduceLE, Int.reduceEq, Int.reduceNeg, Int.reduceToNat, Int.toNat_natCast, Int.natCast_nonneg, List.length_append, List.length_map, List.length_replicate, Bool.and_eq_true, decide_eq_true_eq, List.length_take, List.length_drop, Int.reduceSub, Int.reduceAdd, Int.reduceMul, Int.sub_zero, Int.add_zero, Int.zero_add, reduceCtorEq, decide_true, decide_false, Bool.false_eq_true, List.reduceReplicate]) rfl (fun a => rfl), trivial⟩) (RD1_int rfl)
def lbV (c : Int × Int × Bool) : AV := .agg [.int .i64 c.1, .int .i64 c.2.1, .bool c.2.2]
theorem lbV_eq (c : Int × Int × Bool) : lbV c = .agg [.int .i64 c.1, .int .i64 c.2.1, .bool c.2.2] := (rfl)
attribute [local go_sem] lbV_eq
def effB (c : Int × Int × Bool) : Int × Int := if c.2.2 then (c.1, c.2.1) else (0, 0)
theorem effB_skip {x y : Int} {is : Bool} (h : is = false ∨ x = y) : (effB (x, y, is)).1 = (effB (x, y, is)).2 := by
  unfold effB
  cases is
  · rfl
  · rcases h with h | h
    · cases h
    · exact h
theorem lb_get {cs : List (Int × Int × Bool)} {i : Nat} (h : i < cs.length) : (cs.map lbV)[i]? = some (lbV (cs.getD i (0, 0, false))) := by
  simp [List.getD, List.getElem?_eq_getElem h]
theorem lb_eff {cs : List (Int × Int × Bool)} {i : Nat} (h : i < cs.length) : (cs.map effB).getD i (0, 0) = effB (cs.getD i (0, 0, false)) := by
  simp [List.getD, List.getElem?_eq_getElem h]
theorem l29Hunks_ac (cs : List (Int × Int × Bool)) (hc : ∀ c ∈ cs.map effB, okChg c) (hl : cs.length ≤ 1048576) : AC Try.prog 114 [.lst (cs.map lbV)] (.own 3 ((hunksL (cs.map effB)).map hunkV)) := by
  refine AC.of_run mo Try.func114 Try.call114 ⟨rfl, Try.ntmps114, Try.results114, by kernel_rfl⟩ rfl ?_
  repeat' (first | simp only [go_sem, ↓reduceIte, Nat.reduceEqDiff, Nat.reduceAdd, Nat.reduceMul, Nat.reduceSub, Nat.reduceLeDiff, Nat.reduceLT, Nat.reduceBEq, Nat.reduceBNe, Int.reduceLT, Int.reduceLE, Int.reduceEq, Int.reduceNeg, Int.reduceToNat, Int.toNat_natCast, Int.natCast_nonneg, List.length_append, List.length_map, List.length_replicate, Bool.and_eq_true, decide_eq_true_eq, List.length_take, List.length_drop, Int.reduceSub, Int.reduceAdd, Int.reduceMul, Int.sub_zero, Int.add_zero, Int.zero_add, reduceCtorEq, decide_true, decide_false, Bool.false_eq_true, List.reduceReplicate, *] | simp (disch := omega) only [wrap_i64, wrap_u8, Int.tdiv_eq_ediv_of_nonneg, Int.tmod_eq_emod_of_nonneg, if_pos] | refine callP_x ?_ | (refine ret_gen (by first | exact .inr rfl | exact .inl rfl) (rfl) ?_) | (refine guardP_split (fun _ => ?_) (fun _ => ?_)) | (refine condP_split (fun _ => ?_) (fun _ => ?_)) | (refine guardP_splitB (fun _ => ?_) (fun _ => ?_)) | (refine condP_splitB (fun _ => ?_) (fun _ => ?_)))
  refine sx_loop (fun m s => ∃ i g, i ≤ cs.length ∧ m = cs.length - i ∧ s.τ 0 = .lst (cs.map lbV) ∧ s.τ 4 = .bool (hrun (cs.map effB) i).2.isSome ∧ s.τ 5 = .int .i64 (i : Int) ∧ s.nx = 0 ∧
    s.τ 3 = .ref 1000 g 0 (hsTo (cs.map effB) i).length ∧ s.H 1000 = some ⟨3, (hsTo (cs.map effB) i).map hunkV, g, true⟩) cs.length ⟨0, 0, by simp [go_sem, hrun, hsTo]⟩ ?_
  rintro m s ⟨i, g, hi, rfl, t0, t4, t5, hnx, h3, hH⟩
  simp only [go_sem, ↓reduceIte, Nat.reduceEqDiff, Nat.reduceAdd, Nat.reduceMul, Nat.reduceSub, Nat.reduceLeDiff, Nat.reduceLT, Nat.reduceBEq, Nat.reduceBNe, Int.reduceLT, Int.reduceLE, Int.reduceEq, Int.reduceNeg, Int.reduceToNat, Int.toNat_natCast, Int.natCast_nonneg, List.length_append, List.length_map, List.length_replicate, Bool.and_eq_true, decide_eq_true_eq, List.length_take, List.length_drop, Int.reduceSub, Int.reduceAdd, Int.reduceMul, Int.sub_zero, Int.add_zero, Int.zero_add, reduceCtorEq, decide_true, decide_false, Bool.false_eq_true, List.reduceReplicate, t0, t4, t5, hnx]
  refine condP_split (fun h => ?_) (fun h => ?_)
  · have hlt : i < cs.length := by omega
    have hg := lb_get hlt
    have hok := chg_mem (show i < (cs.map effB).length by simpa using hlt) hc
    have hlen := hrun_len (cs.map effB) i
    have hsucc : hrun (cs.map effB) (i + 1) = hstep (hrun (cs.map effB) i) i ((cs.map effB).getD i (0, 0)) := rfl
    have hto : hsTo (cs.map effB) (i + 1) = (hrun (cs.map effB) (i + 1)).1 ++ (hrun (cs.map effB) (i + 1)).2.toList := rfl
    have hti : hsTo (cs.map effB) i = (hrun (cs.map effB) i).1 ++ (hrun (cs.map effB) i).2.toList := rfl
    rw [hsucc] at hto
    rw [hti] at h3 hH
    clear hti
    rw [lb_eff hlt] at hsucc hto hok
    generalize hrun (cs.map effB) i = st at *
    generalize cs.getD i (0, 0, false) = c at *
    obtain ⟨L, o⟩ := st
    obtain ⟨x, y, is⟩ := c
    simp only at t4 h3 hH hlen
    by_cases hskip : is = false ∨ x = y
    · have e0 : (effB (x, y, is)).1 = (effB (x, y, is)).2 := effB_skip hskip
      rw [hstep, if_pos e0] at hsucc hto
      simp only [Option.toList_none, List.append_nil] at hto
      rw [← hto] at h3 hH
      clear hok hto
      rcases hskip with rfl | rfl
      · repeat' (first | simp only [go_sem, ↓reduceIte, Nat.reduceEqDiff, Nat.reduceAdd, Nat.reduceMul, Nat.reduceSub, Nat.reduceLeDiff, Nat.reduceLT, Nat.reduceBEq, Nat.reduceBNe, Int.reduceLT, Int.reduceLE, Int.reduceEq, Int.reduceNeg, Int.reduceToNat, Int.toNat_natCast, Int.natCast_nonneg, List.length_append, List.length_map, List.length_replicate, Bool.and_eq_true, decide_eq_true_eq, List.length_take, List.length_drop, Int.reduceSub, Int.reduceAdd, Int.reduceMul, Int.sub_zero, Int.add_zero, Int.zero_add, reduceCtorEq, decide_true, decide_false, Bool.false_eq_true, List.reduceReplicate, *] | simp (disch := omega) only [wrap_i64, wrap_u8, Int.tdiv_eq_ediv_of_nonneg, Int.tmod_eq_emod_of_nonneg, if_pos] | refine callP_x ?_ | (refine ret_gen (by first | exact .inr rfl | exact .inl rfl) (rfl) ?_) | (refine guardP_split (fun _ => ?_) (fun _ => ?_)) | (refine condP_split (fun _ => ?_) (fun _ => ?_)) | (refine guardP_splitB (fun _ => ?_) (fun _ => ?_)) | (refine condP_splitB (fun _ => ?_) (fun _ => ?_)))
        exact ⟨cs.length - (i + 1), by omega, i + 1, g, by omega, rfl, by rw [hsucc]; rfl, by simp only [Int.natCast_add, Int.cast_ofNat_Int], rfl, rfl⟩
      · cases is
        · repeat' (first | simp only [go_sem, ↓reduceIte, Nat.reduceEqDiff, Nat.reduceAdd, Nat.reduceMul, Nat.reduceSub, Nat.reduceLeDiff, Nat.reduceLT, Nat.reduceBEq, Nat.reduceBNe, Int.reduceLT, Int.reduceLE, Int.reduceEq, Int.reduceNeg, Int.reduceToNat, Int.toNat_natCast, Int.natCast_nonneg, List.length_append, List.length_map, List.length_replicate, Bool.and_eq_true, decide_eq_true_eq, List.length_take, List.length_drop, Int.reduceSub, Int.reduceAdd, Int.reduceMul, Int.sub_zero, Int.add_zero, Int.zero_add, reduceCtorEq, decide_true, decide_false, Bool.false_eq_true, List.reduceReplicate, *] | simp (disch := omega) only [wrap_i64, wrap_u8, Int.tdiv_eq_ediv_of_nonneg, Int.tmod_eq_emod_of_nonneg, if_pos] | refine callP_x ?_ | (refine ret_gen (by first | exact .inr rfl | exact .inl rfl) (rfl) ?_) | (refine guardP_split (fun _ => ?_) (fun _ => ?_)) | (refine condP_split (fun _ => ?_) (fun _ => ?_)) | (refine guardP_splitB (fun _ => ?_) (fun _ => ?_)) | (refine condP_splitB (fun _ => ?_) (fun _ => ?_)))
          exact ⟨cs.length - (i + 1), by omega, i + 1, g, by omega, rfl, by rw [hsucc]; rfl, by simp only [Int.natCast_add, Int.cast_ofNat_Int], rfl, rfl⟩
        · repeat' (first | simp only [go_sem, ↓reduceIte, Nat.reduceEqDiff, Nat.reduceAdd, Nat.reduceMul, Nat.reduceSub, Nat.reduceLeDiff, Nat.reduceLT, Nat.reduceBEq, Nat.reduceBNe, Int.reduceLT, Int.reduceLE, Int.reduceEq, Int.reduceNeg, Int.reduceToNat, Int.toNat_natCast, Int.natCast_nonneg, List.length_append, List.length_map, List.length_replicate, Bool.and_eq_true, decide_eq_true_eq, List.length_take, List.length_drop, Int.reduceSub, Int.reduceAdd, Int.reduceMul, Int.sub_zero, Int.add_zero, Int.zero_add, reduceCtorEq, decide_true, decide_false, Bool.false_eq_true, List.reduceReplicate, *] | simp (disch := omega) only [wrap_i64, wrap_u8, Int.tdiv_eq_ediv_of_nonneg, Int.tmod_eq_emod_of_nonneg, if_pos] | refine callP_x ?_ | (refine ret_gen (by first | exact .inr rfl | exact .inl rfl) (rfl) ?_) | (refine guardP_split (fun _ => ?_) (fun _ => ?_)) | (refine condP_split (fun _ => ?_) (fun _ => ?_)) | (refine guardP_splitB (fun _ => ?_) (fun _ => ?_)) | (refine condP_splitB (fun _ => ?_) (fun _ => ?_)))
          exact ⟨cs.length - (i + 1), by omega, i + 1, g, by omega, rfl, by rw [hsucc]; rfl, by simp only [Int.natCast_add, Int.cast_ofNat_Int], rfl, rfl⟩
    · have his : is = true := by cases is <;> simp_all
      have hxy : ¬ x = y := fun e => hskip (.inr e)
      subst his
      clear hskip
      have he : effB (x, y, true) = (x, y) := rfl
      rw [he] at hsucc hto hok
      have hxy' : (decide (x = y)) = false := decide_eq_false hxy
      rw [hstep, if_neg hxy] at hsucc hto
      have hso : (hrun (cs.map effB) (i + 1)).2.isSome = true := by rw [hsucc]; rfl
      have hsg : ∀ x, (L.map hunkV ++ [x])[L.length]? = some x := fun x => snoc_get
      have hss : ∀ x y, (L.map hunkV ++ [x]).set L.length y = L.map hunkV ++ [y] := fun x y => snoc_set
      have hLl : L.length ≤ i := by omega
      have e1 : (((L.length + 1 : Nat) : Int) - 1).toNat = L.length := by omega
      have e2 : 0 ≤ ((L.length + 1 : Nat) : Int) - 1 := by omega
      have e3 : ((L.length + 1 : Nat) : Int) - 1 < ((L.length + 1 : Nat) : Int) := by omega
      have hok1 : (-1 ≤ x ∧ x ≤ 255) := hok.1
      have hok2 : (-1 ≤ y ∧ y ≤ 255) := hok.2
      cases o with
      | some h0 =>
        simp only [Option.toList_some, List.length_append, List.map_append, List.length_cons, List.length_nil, List.map_cons, List.map_nil, Option.isSome_some] at h3 hH t4
        have hb0 := hlen.2 h0 (.inr rfl)
        clear hlen
        simp only [Option.getD_some] at hsucc hto
        repeat' (first | simp only [go_sem, ↓reduceIte, Nat.reduceEqDiff, Nat.reduceAdd, Nat.reduceMul, Nat.reduceSub, Nat.reduceLeDiff, Nat.reduceLT, Nat.reduceBEq, Nat.reduceBNe, Int.reduceLT, Int.reduceLE, Int.reduceEq, Int.reduceNeg, Int.reduceToNat, Int.toNat_natCast, Int.natCast_nonneg, List.length_append, List.length_map, List.length_replicate, Bool.and_eq_true, decide_eq_true_eq, List.length_take, List.length_drop, Int.reduceSub, Int.reduceAdd, Int.reduceMul, Int.sub_zero, Int.add_zero, Int.zero_add, reduceCtorEq, decide_true, decide_false, Bool.false_eq_true, List.reduceReplicate, *] | simp (disch := omega) only [wrap_i64, wrap_u8, Int.tdiv_eq_ediv_of_nonneg, Int.tmod_eq_emod_of_nonneg, if_pos] | refine callP_x ?_ | (refine ret_gen (by first | exact .inr rfl | exact .inl rfl) (rfl) ?_) | (refine guardP_split (fun _ => ?_) (fun _ => ?_)) | (refine condP_split (fun _ => ?_) (fun _ => ?_)) | (refine guardP_splitB (fun _ => ?_) (fun _ => ?_)) | (refine condP_splitB (fun _ => ?_) (fun _ => ?_)))
        all_goals (
          refine ⟨cs.length - (i + 1), by omega, i + 1, _, by omega, rfl, by rw [hso], by simp only [Int.natCast_add, Int.cast_ofNat_Int], by rw [hto]; simp only [Option.toList_some, List.length_append, List.length_cons, List.length_nil]; rfl, ?_⟩
          rw [hto]
          simp only [Option.toList_some, List.map_append, List.map_cons, List.map_nil, hunkV_eq, upd1, pushB, ge_iff_le, List.nil_append, *, if_true, if_false])
      | none =>
        simp only [Option.toList_none, List.append_nil, Option.isSome_none] at h3 hH t4
        clear hlen
        simp only [Option.getD_none] at hsucc hto
        repeat' (first | simp only [go_sem, ↓reduceIte, Nat.reduceEqDiff, Nat.reduceAdd, Nat.reduceMul, Nat.reduceSub, Nat.reduceLeDiff, Nat.reduceLT, Nat.reduceBEq, Nat.reduceBNe, Int.reduceLT, Int.reduceLE, Int.reduceEq, Int.reduceNeg, Int.reduceToNat, Int.toNat_natCast, Int.natCast_nonneg, List.length_append, List.length_map, List.length_replicate, Bool.and_eq_true, decide_eq_true_eq, List.length_take, List.length_drop, Int.reduceSub, Int.reduceAdd, Int.reduceMul, Int.sub_zero, Int.add_zero, Int.zero_add, reduceCtorEq, decide_true, decide_false, Bool.false_eq_true, List.reduceReplicate, *] | simp (disch := omega) only [wrap_i64, wrap_u8, Int.tdiv_eq_ediv_of_nonneg, Int.tmod_eq_emod_of_nonneg, if_pos] | refine callP_x ?_ | (refine ret_gen (by first | exact .inr rfl | exact .inl rfl) (rfl) ?_) | (refine guardP_split (fun _ => ?_) (fun _ => ?_)) | (refine condP_split (fun _ => ?_) (fun _ => ?_)) | (refine guardP_splitB (fun _ => ?_) (fun _ => ?_)) | (refine condP_splitB (fun _ => ?_) (fun _ => ?_)))
        all_goals (
          refine ⟨cs.length - (i + 1), by omega, i + 1, _, by omega, rfl, by rw [hso], by simp only [Int.natCast_add, Int.cast_ofNat_Int], by rw [hto]; simp only [Option.toList_some, List.length_append, List.length_cons, List.length_nil]; rfl, ?_⟩
          rw [hto]
          simp only [Option.toList_some, List.map_append, List.map_cons, List.map_nil, hunkV_eq, upd1, pushB, ge_iff_le, List.nil_append, *, if_true, if_false])
  · have e : i = cs.length := by omega
    subst e
    repeat' (first | simp only [go_sem, ↓reduceIte, Nat.reduceEqDiff, Nat.reduceAdd, Nat.reduceMul, Nat.reduceSub, Nat.reduceLeDiff, Nat.reduceLT, Nat.reduceBEq, Nat.reduceBNe, Int.reduceLT, Int.reduceLE, Int.reduceEq, Int.reduceNeg, Int.reduceToNat, Int.toNat_natCast, Int.natCast_nonneg, List.length_append, List.length_map, List.length_replicate, Bool.and_eq_true, decide_eq_true_eq, List.length_take, List.length_drop, Int.reduceSub, Int.reduceAdd, Int.reduceMul, Int.sub_zero, Int.add_zero, Int.zero_add, reduceCtorEq, decide_true, decide_false, Bool.false_eq_true, List.reduceReplicate, *] | simp (disch := omega) only [wrap_i64, wrap_u8, Int.tdiv_eq_ediv_of_nonneg, Int.tmod_eq_emod_of_nonneg, if_pos] | refine callP_x ?_ | (refine ret_gen (by first | exact .inr rfl | exact .inl rfl) (rfl) ?_) | (refine guardP_split (fun _ => ?_) (fun _ => ?_)) | (refine condP_split (fun _ => ?_) (fun _ => ?_)) | (refine guardP_splitB (fun _ => ?_) (fun _ => ?_)) | (refine condP_splitB (fun _ => ?_) (fun _ => ?_)))
    exact own_map (by rw [hH, hunksL, List.length_map]) (by rw [hunksL, List.length_map]) fun a => rfl
def chgs3 (a b : List UInt8) (n : Nat) : List (Int × Int × Bool) := (List.range n).map fun i => (bAt a i, bAt b i, true)
theorem chgs3_eff (a b : List UInt8) (n : Nat) : (chgs3 a b n).map effB = chgs a b n := by simp [chgs3, chgs, effB]
theorem chgs3_succ (a b : List UInt8) (n : Nat) : chgs3 a b (n + 1) = chgs3 a b n ++ [(bAt a n, bAt b n, true)] := by simp [chgs3, List.range_succ]
theorem chgs3_len (a b : List UInt8) (n : Nat) : (chgs3 a b n).length = n := by simp [chgs3]
theorem l29Make_ac (a b : List UInt8) (ha : a.length ≤ 512) (hb : b.length ≤ 512) : AC Try.prog 79 [.str a, .str b] (.agg [.int .i64 a.length, .int .i64 b.length, .int .i64 (crcL 65535 a : Nat), .int .i64 (crcL 65535 b : Nat), .own 3 ((hunksL (chgs a b (max a.length b.length))).map hunkV)]) := by
  have hmx : (if (b.length : Int) > a.length then (b.length : Int) else a.length) = ((max a.length b.length : Nat) : Int) := by split <;> omega
  have hmx1 : max a.length b.length ≤ 512 := by omega
  have c1 := sCrc_ac a 65535 (by decide) (by omega)
  have c2 := sCrc_ac b 65535 (by decide) (by omega)
  have c3 : ((65535 : Nat) : Int) = 65535 := rfl
  rw [c3] at c1 c2
  have hmax := l00Max_ac (a.length : Int) b.length
  rw [hmx] at hmax
  refine AC.of_run mo Try.func79 Try.call79 ⟨rfl, Try.ntmps79, Try.results79, by kernel_rfl⟩ rfl ?_
  generalize max a.length b.length = n at *
  repeat' (first | simp only [go_sem, ↓reduceIte, Nat.reduceEqDiff, Nat.reduceAdd, Nat.reduceMul, Nat.reduceSub, Nat.reduceLeDiff, Nat.reduceLT, Nat.reduceBEq, Nat.reduceBNe, Int.reduceLT, Int.reduceLE, Int.reduceEq, Int.reduceNeg, Int.reduceToNat, Int.toNat_natCast, Int.natCast_nonneg, List.length_append, List.length_map, List.length_replicate, Bool.and_eq_true, decide_eq_true_eq, List.length_take, List.length_drop, Int.reduceSub, Int.reduceAdd, Int.reduceMul, Int.sub_zero, Int.add_zero, Int.zero_add, reduceCtorEq, decide_true, decide_false, Bool.false_eq_true, List.reduceReplicate, *] | simp (disch := omega) only [wrap_i64, wrap_u8, Int.tdiv_eq_ediv_of_nonneg, Int.tmod_eq_emod_of_nonneg, if_pos] | (refine callP_0 (c1 ..) (rfl) (rfl) ?_) | (refine callP_0 (c2 ..) (rfl) (rfl) ?_) | (refine callX_ac (c1 ..) (rfl) (rfl) ?_) | (refine callX_ac (c2 ..) (rfl) (rfl) ?_) | refine callP_x ?_ | (refine ret_gen (by first | exact .inr rfl | exact .inl rfl) (rfl) ?_) | (refine guardP_split (fun _ => ?_) (fun _ => ?_)) | (refine condP_split (fun _ => ?_) (fun _ => ?_)) | (refine guardP_splitB (fun _ => ?_) (fun _ => ?_)) | (refine condP_splitB (fun _ => ?_) (fun _ => ?_)))
  refine sx_loop (fun m s => ∃ i g, i ≤ n ∧ m = n - i ∧ s.τ 0 = .str a ∧ s.τ 1 = .str b ∧ s.τ 4 = .ptr 0 0 0 0 ∧ s.τ 5 = .ptr 1009 0 0 0 ∧ s.τ 6 = .ref 2000 g 0 i ∧ s.τ 7 = .int .i64 (i : Int) ∧ s.nx = 0 ∧
    s.H 0 = some ⟨5, [.agg [.int .i64 0, .int .i64 0, .int .i64 0, .int .i64 0, .nil]], 0, true⟩ ∧ s.H 1009 = some ⟨5, [.agg [.int .i64 a.length, .int .i64 b.length, .int .i64 (crcL 65535 a : Nat), .int .i64 (crcL 65535 b : Nat), .nil]], 0, true⟩ ∧
    s.H 2000 = some ⟨3, (chgs3 a b i).map lbV, g, true⟩) n ⟨0, 0, by simp [go_sem, chgs3]⟩ ?_
  rintro m s ⟨i, g, hi, rfl, t0, t1, t4, t5, t6, t7, hnx, hH0, hH1, hH⟩
  simp only [go_sem, ↓reduceIte, Nat.reduceEqDiff, Nat.reduceAdd, Nat.reduceMul, Nat.reduceSub, Nat.reduceLeDiff, Nat.reduceLT, Nat.reduceBEq, Nat.reduceBNe, Int.reduceLT, Int.reduceLE, Int.reduceEq, Int.reduceNeg, Int.reduceToNat, Int.toNat_natCast, Int.natCast_nonneg, List.length_append, List.length_map, List.length_replicate, Bool.and_eq_true, decide_eq_true_eq, List.length_take, List.length_drop, Int.reduceSub, Int.reduceAdd, Int.reduceMul, Int.sub_zero, Int.add_zero, Int.zero_add, reduceCtorEq, decide_true, decide_false, Bool.false_eq_true, List.reduceReplicate, t0, t1, t4, t5, t6, t7, hnx, hH0, hH1]
  refine callP_0 hmax (rfl) (rfl) ?_
  simp only [go_sem, ↓reduceIte, Nat.reduceEqDiff, Nat.reduceAdd, Nat.reduceMul, Nat.reduceSub, Nat.reduceLeDiff, Nat.reduceLT, Nat.reduceBEq, Nat.reduceBNe, Int.reduceLT, Int.reduceLE, Int.reduceEq, Int.reduceNeg, Int.reduceToNat, Int.toNat_natCast, Int.natCast_nonneg, List.length_append, List.length_map, List.length_replicate, Bool.and_eq_true, decide_eq_true_eq, List.length_take, List.length_drop, Int.reduceSub, Int.reduceAdd, Int.reduceMul, Int.sub_zero, Int.add_zero, Int.zero_add, reduceCtorEq, decide_true, decide_false, Bool.false_eq_true, List.reduceReplicate]
  refine condP_split (fun h => ?_) (fun h => ?_)
  · have hlt : i < n := by omega
    have hcl := chgs3_len a b i
    repeat' (first | simp only [go_sem, ↓reduceIte, Nat.reduceEqDiff, Nat.reduceAdd, Nat.reduceMul, Nat.reduceSub, Nat.reduceLeDiff, Nat.reduceLT, Nat.reduceBEq, Nat.reduceBNe, Int.reduceLT, Int.reduceLE, Int.reduceEq, Int.reduceNeg, Int.reduceToNat, Int.toNat_natCast, Int.natCast_nonneg, List.length_append, List.length_map, List.length_replicate, Bool.and_eq_true, decide_eq_true_eq, List.length_take, List.length_drop, Int.reduceSub, Int.reduceAdd, Int.reduceMul, Int.sub_zero, Int.add_zero, Int.zero_add, reduceCtorEq, decide_true, decide_false, Bool.false_eq_true, List.reduceReplicate, *] | simp (disch := omega) only [wrap_i64, wrap_u8, Int.tdiv_eq_ediv_of_nonneg, Int.tmod_eq_emod_of_nonneg, if_pos] | (refine callP_0 (l29At_ac a i) (rfl) (rfl) ?_) | (refine callP_0 (l29At_ac b i) (rfl) (rfl) ?_) | (refine callX_ac (l29At_ac a i) (rfl) (rfl) ?_) | (refine callX_ac (l29At_ac b i) (rfl) (rfl) ?_) | refine callP_x ?_ | (refine ret_gen (by first | exact .inr rfl | exact .inl rfl) (rfl) ?_) | (refine guardP_split (fun _ => ?_) (fun _ => ?_)) | (refine condP_split (fun _ => ?_) (fun _ => ?_)) | (refine guardP_splitB (fun _ => ?_) (fun _ => ?_)) | (refine condP_splitB (fun _ => ?_) (fun _ => ?_)))
    refine ⟨n - (i + 1), by omega, i + 1, g + 1, by omega, rfl, rfl, by simp only [Int.natCast_add, Int.cast_ofNat_Int], ?_⟩
    rw [chgs3_succ, List.map_append]
    rfl
  · have e : i = n := by omega
    subst e
    have hho := l29Hunks_ac (chgs3 a b i) (by rw [chgs3_eff]; exact chgs_ok a b i) (by rw [chgs3_len]; omega)
    rw [chgs3_eff] at hho
    have hcl := chgs3_len a b i
    have hdl : ∀ g, dl g ((chgs3 a b i).map lbV) = some ((chgs3 a b i).map lbV) := fun g => dl_map fun c => rfl
    have htk : ((chgs3 a b i).map lbV).take i = (chgs3 a b i).map lbV := List.take_of_length_le (by simp [chgs3_len])
    have f1 : freeze [2000] s.H 2000 = some ⟨3, (chgs3 a b i).map lbV, g, false⟩ := by simp [freeze, hH]
    have f2 : freeze [2000] s.H 0 = s.H 0 := by simp [freeze]
    have f3 : freeze [2000] s.H 1009 = s.H 1009 := by simp [freeze]
    repeat' (first | simp only [go_sem, ↓reduceIte, Nat.reduceEqDiff, Nat.reduceAdd, Nat.reduceMul, Nat.reduceSub, Nat.reduceLeDiff, Nat.reduceLT, Nat.reduceBEq, Nat.reduceBNe, Int.reduceLT, Int.reduceLE, Int.reduceEq, Int.reduceNeg, Int.reduceToNat, Int.toNat_natCast, Int.natCast_nonneg, List.length_append, List.length_map, List.length_replicate, Bool.and_eq_true, decide_eq_true_eq, List.length_take, List.length_drop, Int.reduceSub, Int.reduceAdd, Int.reduceMul, Int.sub_zero, Int.add_zero, Int.zero_add, reduceCtorEq, decide_true, decide_false, Bool.false_eq_true, List.reduceReplicate, *] | simp (disch := omega) only [wrap_i64, wrap_u8, Int.tdiv_eq_ediv_of_nonneg, Int.tmod_eq_emod_of_nonneg, if_pos] | (refine callP_ac [2000] true ?_ (hho) (.inl rfl) (rfl) ?_) | refine callP_x ?_ | (refine ret_gen (by first | exact .inr rfl | exact .inl rfl) (rfl) ?_) | (refine guardP_split (fun _ => ?_) (fun _ => ?_)) | (refine condP_split (fun _ => ?_) (fun _ => ?_)) | (refine guardP_splitB (fun _ => ?_) (fun _ => ?_)) | (refine condP_splitB (fun _ => ?_) (fun _ => ?_)))
    exact RDs_1 (some 7001) (RD1_aggO ⟨RDc_int rfl, RDc_int rfl, RDc_int rfl, RDc_int rfl, own_mapC (by simp only [go_sem, ↓reduceIte, Nat.reduceEqDiff, Nat.reduceAdd, Nat.reduceMul, Nat.reduceSub, Nat.reduceLeDiff, Nat.reduceLT, Nat.reduceBEq, Nat.reduceBNe, Int.reduceLT, Int.reduceLE, Int.reduceEq, Int.reduceNeg, Int.reduceToNat, Int.toNat_natCast, Int.natCast_nonneg, List.length_append, List.length_map, List.length_replicate, Bool.and_eq_true, decide_eq_true_eq, List.length_take, List.length_drop, Int.reduceSub, Int.reduceAdd, Int.reduceMul, Int.sub_zero, Int.add_zero, Int.zero_add, reduceCtorEq, decide_true, decide_false, Bool.false_eq_true, List.reduceReplicate]) rfl (fun a => rfl), trivial⟩)
theorem sMakeBad_ac (a b : List UInt8) (h : ¬ pMax a b) : AC Try.prog 43 [.str a, .str b] (.tup [.agg [.int .i64 0, .int .i64 0, .int .i64 0, .int .i64 0, .own 3 []], .int .i64 2]) := by
  unfold pMax at h
  refine AC.of_run mo Try.func43 Try.call43 ⟨rfl, Try.ntmps43, Try.results43, by kernel_rfl⟩ rfl ?_
  repeat' (first | simp only [go_sem, ↓reduceIte, Nat.reduceEqDiff, Nat.reduceAdd, Nat.reduceMul, Nat.reduceSub, Nat.reduceLeDiff, Nat.reduceLT, Nat.reduceBEq, Nat.reduceBNe, Int.reduceLT, Int.reduceLE, Int.reduceEq, Int.reduceNeg, Int.reduceToNat, Int.toNat_natCast, Int.natCast_nonneg, List.length_append, List.length_map, List.length_replicate, Bool.and_eq_true, decide_eq_true_eq, List.length_take, List.length_drop, Int.reduceSub, Int.reduceAdd, Int.reduceMul, Int.sub_zero, Int.add_zero, Int.zero_add, reduceCtorEq, decide_true, decide_false, Bool.false_eq_true, List.reduceReplicate, *] | simp (disch := omega) only [wrap_i64, wrap_u8, Int.tdiv_eq_ediv_of_nonneg, Int.tmod_eq_emod_of_nonneg, if_pos] | refine callP_x ?_ | (refine ret_gen (by first | exact .inr rfl | exact .inl rfl) (rfl) ?_) | (refine guardP_split (fun _ => ?_) (fun _ => ?_)) | (refine condP_split (fun _ => ?_) (fun _ => ?_)) | (refine guardP_splitB (fun _ => ?_) (fun _ => ?_)) | (refine condP_splitB (fun _ => ?_) (fun _ => ?_)))
  all_goals first
    | (exfalso; omega)
    | exact RDs_2 none (RD1_aggO ⟨RDc_int rfl, RDc_int rfl, RDc_int rfl, RDc_int rfl, RDc_nil, trivial⟩) (RD1_int rfl)
theorem sMakePatch_ac (a b : List UInt8) (h : pMax a b) : AC Try.prog 43 [.str a, .str b] (.tup [.agg [.int .i64 a.length, .int .i64 b.length, .int .i64 (crcL 65535 a : Nat), .int .i64 (crcL 65535 b : Nat), .own 3 ((hunksL (chgs a b (max a.length b.length))).map hunkV)], .int .i64 0]) := by
  have hm := l29Make_ac a b h.1 h.2
  unfold pMax at h
  refine AC.of_run mo Try.func43 Try.call43 ⟨rfl, Try.ntmps43, Try.results43, by kernel_rfl⟩ rfl ?_
  repeat' (first | simp only [go_sem, ↓reduceIte, Nat.reduceEqDiff, Nat.reduceAdd, Nat.reduceMul, Nat.reduceSub, Nat.reduceLeDiff, Nat.reduceLT, Nat.reduceBEq, Nat.reduceBNe, Int.reduceLT, Int.reduceLE, Int.reduceEq, Int.reduceNeg, Int.reduceToNat, Int.toNat_natCast, Int.natCast_nonneg, List.length_append, List.length_map, List.length_replicate, Bool.and_eq_true, decide_eq_true_eq, List.length_take, List.length_drop, Int.reduceSub, Int.reduceAdd, Int.reduceMul, Int.sub_zero, Int.add_zero, Int.zero_add, reduceCtorEq, decide_true, decide_false, Bool.false_eq_true, List.reduceReplicate, *] | simp (disch := omega) only [wrap_i64, wrap_u8, Int.tdiv_eq_ediv_of_nonneg, Int.tmod_eq_emod_of_nonneg, if_pos] | (refine callP_0 (hm ..) (rfl) (rfl) ?_) | (refine callX_ac (hm ..) (rfl) (rfl) ?_) | refine callP_x ?_ | (refine ret_gen (by first | exact .inr rfl | exact .inl rfl) (rfl) ?_) | (refine guardP_split (fun _ => ?_) (fun _ => ?_)) | (refine condP_split (fun _ => ?_) (fun _ => ?_)) | (refine guardP_splitB (fun _ => ?_) (fun _ => ?_)) | (refine condP_splitB (fun _ => ?_) (fun _ => ?_)))
  all_goals first
    | (exfalso; omega)
    | exact RDs_2 (some 3002) (RD1_aggO ⟨RDc_int rfl, RDc_int rfl, RDc_int rfl, RDc_int rfl, own_mapC (by simp only [go_sem, ↓reduceIte, Nat.reduceEqDiff, Nat.reduceAdd, Nat.reduceMul, Nat.reduceSub, Nat.reduceLeDiff, Nat.reduceLT, Nat.reduceBEq, Nat.reduceBNe, Int.reduceLT, Int.reduceLE, Int.reduceEq, Int.reduceNeg, Int.reduceToNat, Int.toNat_natCast, Int.natCast_nonneg, List.length_append, List.length_map, List.length_replicate, Bool.and_eq_true, decide_eq_true_eq, List.length_take, List.length_drop, Int.reduceSub, Int.reduceAdd, Int.reduceMul, Int.sub_zero, Int.add_zero, Int.zero_add, reduceCtorEq, decide_true, decide_false, Bool.false_eq_true, List.reduceReplicate]) rfl (fun a => rfl), trivial⟩) (RD1_int rfl)
end
end Go.Ab
