/- The contracts of a law's own functions on its types. Conditions: none. -/
import Derived.Test.YtkpcbgoljkccbaaTStr
namespace Go.Ab
open Go.RowKit Go.Proofs
set_option maxRecDepth 10000
set_option maxHeartbeats 4000000
set_option linter.unusedSimpArgs false
set_option linter.unusedVariables false
structure SectorSpecD where
  cylinder : Int
  hea : Int
  num : Int
  siz : Int
  dat : List UInt8
  deleted : Bool
  badId : Bool
  badData : Bool
  deriving DecidableEq
def sectorSpecV (x : SectorSpecD) : AV := .agg [.int .i64 x.cylinder, .int .i64 x.hea, .int .i64 x.num, .int .i64 x.siz, .str x.dat, .bool x.deleted, .bool x.badId, .bool x.badData]
theorem sectorSpecV_eq (x : SectorSpecD) : sectorSpecV x = .agg [.int .i64 x.cylinder, .int .i64 x.hea, .int .i64 x.num, .int .i64 x.siz, .str x.dat, .bool x.deleted, .bool x.badId, .bool x.badData] := (rfl)
attribute [local go_sem] sectorSpecV_eq
def okSectorSpec (x : SectorSpecD) : Prop := (x.dat.length ≤ maxLen)
def costSectorSpec (x : SectorSpecD) : Nat := x.dat.length
theorem sectorSpec_ext {x y : SectorSpecD} (h0 : x.cylinder = y.cylinder) (h1 : x.hea = y.hea) (h2 : x.num = y.num) (h3 : x.siz = y.siz) (h4 : x.dat = y.dat) (h5 : x.deleted = y.deleted) (h6 : x.badId = y.badId) (h7 : x.badData = y.badData) : x = y := by cases x; cases y; simp_all
theorem dat_sectorSpec (n : Nat) {cs : List AV} (h : Dat Try.prog (n + 2) 163 cs) : ∃ x : SectorSpecD, cs = [.int .i64 x.cylinder, .int .i64 x.hea, .int .i64 x.num, .int .i64 x.siz, .str x.dat, .bool x.deleted, .bool x.badId, .bool x.badData] ∧ okSectorSpec x := by
  simp only [dat_succ, tk4, tk2, tk163, tk9, datK_struct, datK_slice, datK_int, datK_str, datK_bool, datF_cons, datF_nil, datVK_struct, datV_eq, datVK_int, datVK_str, datVK_bool, List.map_cons, List.map_nil] at h
  obtain ⟨c0, r0, rfl, ⟨a0, rfl, _⟩, c1, r1, rfl, ⟨a1, rfl, _⟩, c2, r2, rfl, ⟨a2, rfl, _⟩, c3, r3, rfl, ⟨a3, rfl, _⟩, c4, r4, rfl, ⟨a4, rfl, h4⟩, c5, r5, rfl, ⟨a5, rfl⟩, c6, r6, rfl, ⟨a6, rfl⟩, c7, r7, rfl, ⟨a7, rfl⟩, rfl⟩ := h
  exact ⟨⟨a0, a1, a2, a3, a4, a5, a6, a7⟩, rfl, h4⟩
theorem toSectorSpec_ac (x : SectorSpecD) : AC Try.prog 134 [sectorSpecV x] (sectorSpecV x) := by
  simp only [sectorSpecV_eq]
  refine AC.of_run mo Try.func134 Try.call134 ⟨rfl, Try.ntmps134, Try.results134, by kernel_rfl⟩ rfl ?_
  repeat' (first | simp only [go_sem, ↓reduceIte, Nat.reduceEqDiff, Nat.reduceAdd, Nat.reduceMul, Nat.reduceSub, Nat.reduceLeDiff, Nat.reduceLT, Nat.reduceBEq, Nat.reduceBNe, Int.reduceLT, Int.reduceLE, Int.reduceEq, Int.reduceNeg, Int.reduceToNat, Int.toNat_natCast, Int.natCast_nonneg, List.length_append, List.length_map, List.length_replicate, Bool.and_eq_true, decide_eq_true_eq, List.length_take, List.length_drop, Int.reduceSub, Int.reduceAdd, Int.reduceMul, Int.sub_zero, Int.add_zero, Int.zero_add, reduceCtorEq, decide_true, decide_false, Bool.false_eq_true, List.reduceReplicate, *] | simp (disch := omega) only [wrap_i64, wrap_u8, Int.tdiv_eq_ediv_of_nonneg, Int.tmod_eq_emod_of_nonneg, if_pos] | refine callP_x ?_ | (refine ret_gen (by first | exact .inr rfl | exact .inl rfl) (rfl) ?_) | (refine guardP_split (fun _ => ?_) (fun _ => ?_)) | (refine condP_split (fun _ => ?_) (fun _ => ?_)) | (refine guardP_splitB (fun _ => ?_) (fun _ => ?_)) | (refine condP_splitB (fun _ => ?_) (fun _ => ?_)))
theorem szSectorSpec_ac (x : SectorSpecD) (n : Int) (hok : okSectorSpec x) (hn : 0 ≤ n ∧ n ≤ 1048576) : AC Try.prog 133 [sectorSpecV x, .int .i64 n] (.int .i64 (szR (costSectorSpec x) n)) := by
  unfold okSectorSpec maxLen at hok
  simp only [sectorSpecV_eq]
  refine AC.of_run mo Try.func133 Try.call133 ⟨rfl, Try.ntmps133, Try.results133, by kernel_rfl⟩ rfl ?_
  repeat' (first | simp only [go_sem, ↓reduceIte, Nat.reduceEqDiff, Nat.reduceAdd, Nat.reduceMul, Nat.reduceSub, Nat.reduceLeDiff, Nat.reduceLT, Nat.reduceBEq, Nat.reduceBNe, Int.reduceLT, Int.reduceLE, Int.reduceEq, Int.reduceNeg, Int.reduceToNat, Int.toNat_natCast, Int.natCast_nonneg, List.length_append, List.length_map, List.length_replicate, Bool.and_eq_true, decide_eq_true_eq, List.length_take, List.length_drop, Int.reduceSub, Int.reduceAdd, Int.reduceMul, Int.sub_zero, Int.add_zero, Int.zero_add, reduceCtorEq, decide_true, decide_false, Bool.false_eq_true, List.reduceReplicate, *] | simp (disch := omega) only [wrap_i64, wrap_u8, Int.tdiv_eq_ediv_of_nonneg, Int.tmod_eq_emod_of_nonneg, if_pos] | refine callP_x ?_ | (refine ret_gen (by first | exact .inr rfl | exact .inl rfl) (rfl) ?_) | (refine guardP_split (fun _ => ?_) (fun _ => ?_)) | (refine condP_split (fun _ => ?_) (fun _ => ?_)) | (refine guardP_splitB (fun _ => ?_) (fun _ => ?_)) | (refine condP_splitB (fun _ => ?_) (fun _ => ?_)))
  all_goals grind [szR, costSectorSpec]
theorem eqSectorSpec_ac (x y : SectorSpecD) : AC Try.prog 131 [sectorSpecV x, sectorSpecV y] (.bool (decide (x = y))) := by
  simp only [sectorSpecV_eq]
  refine AC.of_run mo Try.func131 Try.call131 ⟨rfl, Try.ntmps131, Try.results131, by kernel_rfl⟩ rfl ?_
  repeat' (first | simp only [go_sem, ↓reduceIte, Nat.reduceEqDiff, Nat.reduceAdd, Nat.reduceMul, Nat.reduceSub, Nat.reduceLeDiff, Nat.reduceLT, Nat.reduceBEq, Nat.reduceBNe, Int.reduceLT, Int.reduceLE, Int.reduceEq, Int.reduceNeg, Int.reduceToNat, Int.toNat_natCast, Int.natCast_nonneg, List.length_append, List.length_map, List.length_replicate, Bool.and_eq_true, decide_eq_true_eq, List.length_take, List.length_drop, Int.reduceSub, Int.reduceAdd, Int.reduceMul, Int.sub_zero, Int.add_zero, Int.zero_add, reduceCtorEq, decide_true, decide_false, Bool.false_eq_true, List.reduceReplicate, *] | simp (disch := omega) only [wrap_i64, wrap_u8, Int.tdiv_eq_ediv_of_nonneg, Int.tmod_eq_emod_of_nonneg, if_pos] | refine callP_x ?_ | (refine ret_gen (by first | exact .inr rfl | exact .inl rfl) (rfl) ?_) | (refine guardP_split (fun _ => ?_) (fun _ => ?_)) | (refine condP_split (fun _ => ?_) (fun _ => ?_)) | (refine guardP_splitB (fun _ => ?_) (fun _ => ?_)) | (refine condP_splitB (fun _ => ?_) (fun _ => ?_)))
  all_goals first
    | (symm; rw [decide_eq_true_iff]; exact sectorSpec_ext (by first | assumption | simp_all) (by first | assumption | simp_all) (by first | assumption | simp_all) (by first | assumption | simp_all) (by first | assumption | simp_all) (by first | assumption | simp_all) (by first | assumption | simp_all) (by first | assumption | simp_all))
    | (symm; rw [decide_eq_false_iff_not]; rintro rfl; simp_all)
theorem toSectorSpecS_ac (hs : List SectorSpecD) (hl : hs.length ≤ 1048576) : AC Try.prog 119 [.lst (hs.map sectorSpecV)] (.own 8 (hs.map sectorSpecV)) := by
  refine AC.of_run mo Try.func119 Try.call119 ⟨rfl, Try.ntmps119, Try.results119, by kernel_rfl⟩ rfl ?_
  repeat' (first | simp only [go_sem, ↓reduceIte, Nat.reduceEqDiff, Nat.reduceAdd, Nat.reduceMul, Nat.reduceSub, Nat.reduceLeDiff, Nat.reduceLT, Nat.reduceBEq, Nat.reduceBNe, Int.reduceLT, Int.reduceLE, Int.reduceEq, Int.reduceNeg, Int.reduceToNat, Int.toNat_natCast, Int.natCast_nonneg, List.length_append, List.length_map, List.length_replicate, Bool.and_eq_true, decide_eq_true_eq, List.length_take, List.length_drop, Int.reduceSub, Int.reduceAdd, Int.reduceMul, Int.sub_zero, Int.add_zero, Int.zero_add, reduceCtorEq, decide_true, decide_false, Bool.false_eq_true, List.reduceReplicate, *] | simp (disch := omega) only [wrap_i64, wrap_u8, Int.tdiv_eq_ediv_of_nonneg, Int.tmod_eq_emod_of_nonneg, if_pos] | refine callP_x ?_ | (refine ret_gen (by first | exact .inr rfl | exact .inl rfl) (rfl) ?_) | (refine guardP_split (fun _ => ?_) (fun _ => ?_)) | (refine condP_split (fun _ => ?_) (fun _ => ?_)) | (refine guardP_splitB (fun _ => ?_) (fun _ => ?_)) | (refine condP_splitB (fun _ => ?_) (fun _ => ?_)))
  refine sx_loop (fun m s => ∃ i, i ≤ hs.length ∧ m = hs.length - i ∧ s.τ 0 = .lst (hs.map sectorSpecV) ∧ s.τ 3 = .ref 1002 0 0 hs.length ∧ s.τ 4 = .int .i64 (i : Int) ∧
    s.H 1002 = some ⟨8, (hs.take i).map sectorSpecV ++ List.replicate (hs.length - i) (.agg [.int .i64 0, .int .i64 0, .int .i64 0, .int .i64 0, .str [], .bool false, .bool false, .bool false]), 0, true⟩) hs.length ⟨0, by simp [go_sem]⟩ ?_
  rintro m s ⟨i, hi, rfl, h0, h3, h4, hH⟩
  simp only [go_sem, ↓reduceIte, Nat.reduceEqDiff, Nat.reduceAdd, Nat.reduceMul, Nat.reduceSub, Nat.reduceLeDiff, Nat.reduceLT, Nat.reduceBEq, Nat.reduceBNe, Int.reduceLT, Int.reduceLE, Int.reduceEq, Int.reduceNeg, Int.reduceToNat, Int.toNat_natCast, Int.natCast_nonneg, List.length_append, List.length_map, List.length_replicate, Bool.and_eq_true, decide_eq_true_eq, List.length_take, List.length_drop, Int.reduceSub, Int.reduceAdd, Int.reduceMul, Int.sub_zero, Int.add_zero, Int.zero_add, reduceCtorEq, decide_true, decide_false, Bool.false_eq_true, List.reduceReplicate, *]
  refine condP_split (fun h => ?_) (fun h => ?_)
  · have hlt : i < hs.length := by omega
    have hg := get_map (f := sectorSpecV) hlt
    have hp := get_part (f := sectorSpecV) (z := .agg [.int .i64 0, .int .i64 0, .int .i64 0, .int .i64 0, .str [], .bool false, .bool false, .bool false]) hlt
    have hset := set_part (f := sectorSpecV) (z := .agg [.int .i64 0, .int .i64 0, .int .i64 0, .int .i64 0, .str [], .bool false, .bool false, .bool false]) hlt
    repeat' (first | simp only [go_sem, ↓reduceIte, Nat.reduceEqDiff, Nat.reduceAdd, Nat.reduceMul, Nat.reduceSub, Nat.reduceLeDiff, Nat.reduceLT, Nat.reduceBEq, Nat.reduceBNe, Int.reduceLT, Int.reduceLE, Int.reduceEq, Int.reduceNeg, Int.reduceToNat, Int.toNat_natCast, Int.natCast_nonneg, List.length_append, List.length_map, List.length_replicate, Bool.and_eq_true, decide_eq_true_eq, List.length_take, List.length_drop, Int.reduceSub, Int.reduceAdd, Int.reduceMul, Int.sub_zero, Int.add_zero, Int.zero_add, reduceCtorEq, decide_true, decide_false, Bool.false_eq_true, List.reduceReplicate, *] | simp (disch := omega) only [wrap_i64, wrap_u8, Int.tdiv_eq_ediv_of_nonneg, Int.tmod_eq_emod_of_nonneg, if_pos] | (refine callP_0 (toSectorSpec_ac ..) (rfl) (rfl) ?_) | (refine callX_ac (toSectorSpec_ac ..) (rfl) (rfl) ?_) | refine callP_x ?_ | (refine ret_gen (by first | exact .inr rfl | exact .inl rfl) (rfl) ?_) | (refine guardP_split (fun _ => ?_) (fun _ => ?_)) | (refine condP_split (fun _ => ?_) (fun _ => ?_)) | (refine guardP_splitB (fun _ => ?_) (fun _ => ?_)) | (refine condP_splitB (fun _ => ?_) (fun _ => ?_)))
    exact ⟨hs.length - (i + 1), by omega, i + 1, by omega, rfl, by simp only [Int.natCast_add, Int.cast_ofNat_Int], by rw [← hset] <;> rfl⟩
  · have e : i = hs.length := by omega
    subst e
    rw [List.take_length, Nat.sub_self, List.replicate_zero, List.append_nil] at hH
    repeat' (first | simp only [go_sem, ↓reduceIte, Nat.reduceEqDiff, Nat.reduceAdd, Nat.reduceMul, Nat.reduceSub, Nat.reduceLeDiff, Nat.reduceLT, Nat.reduceBEq, Nat.reduceBNe, Int.reduceLT, Int.reduceLE, Int.reduceEq, Int.reduceNeg, Int.reduceToNat, Int.toNat_natCast, Int.natCast_nonneg, List.length_append, List.length_map, List.length_replicate, Bool.and_eq_true, decide_eq_true_eq, List.length_take, List.length_drop, Int.reduceSub, Int.reduceAdd, Int.reduceMul, Int.sub_zero, Int.add_zero, Int.zero_add, reduceCtorEq, decide_true, decide_false, Bool.false_eq_true, List.reduceReplicate, *] | simp (disch := omega) only [wrap_i64, wrap_u8, Int.tdiv_eq_ediv_of_nonneg, Int.tmod_eq_emod_of_nonneg, if_pos] | refine callP_x ?_ | (refine ret_gen (by first | exact .inr rfl | exact .inl rfl) (rfl) ?_) | (refine guardP_split (fun _ => ?_) (fun _ => ?_)) | (refine condP_split (fun _ => ?_) (fun _ => ?_)) | (refine guardP_splitB (fun _ => ?_) (fun _ => ?_)) | (refine condP_splitB (fun _ => ?_) (fun _ => ?_)))
    exact own_map hH rfl fun a => rfl
theorem szSectorSpecS_ac (hs : List SectorSpecD) (n : Int) (hl : hs.length ≤ maxLen) (hok : ∀ x ∈ hs, okSectorSpec x) (hn : 0 ≤ n ∧ n ≤ 1048576) : AC Try.prog 118 [.lst (hs.map sectorSpecV), .int .i64 n] (.int .i64 (szR (hs.length + csum costSectorSpec hs) n)) := by
  refine AC.of_run mo Try.func118 Try.call118 ⟨rfl, Try.ntmps118, Try.results118, by kernel_rfl⟩ rfl ?_
  unfold maxLen at hl
  repeat' (first | simp only [go_sem, ↓reduceIte, Nat.reduceEqDiff, Nat.reduceAdd, Nat.reduceMul, Nat.reduceSub, Nat.reduceLeDiff, Nat.reduceLT, Nat.reduceBEq, Nat.reduceBNe, Int.reduceLT, Int.reduceLE, Int.reduceEq, Int.reduceNeg, Int.reduceToNat, Int.toNat_natCast, Int.natCast_nonneg, List.length_append, List.length_map, List.length_replicate, Bool.and_eq_true, decide_eq_true_eq, List.length_take, List.length_drop, Int.reduceSub, Int.reduceAdd, Int.reduceMul, Int.sub_zero, Int.add_zero, Int.zero_add, reduceCtorEq, decide_true, decide_false, Bool.false_eq_true, List.reduceReplicate, *] | simp (disch := omega) only [wrap_i64, wrap_u8, Int.tdiv_eq_ediv_of_nonneg, Int.tmod_eq_emod_of_nonneg, if_pos] | refine callP_x ?_ | (refine ret_gen (by first | exact .inr rfl | exact .inl rfl) (rfl) ?_) | (refine guardP_split (fun _ => ?_) (fun _ => ?_)) | (refine condP_split (fun _ => ?_) (fun _ => ?_)) | (refine guardP_splitB (fun _ => ?_) (fun _ => ?_)) | (refine condP_splitB (fun _ => ?_) (fun _ => ?_)))
  · grind [szR]
  refine sx_loop (fun m s => ∃ i, i ≤ hs.length ∧ m = hs.length - i ∧ s.τ 0 = .lst (hs.map sectorSpecV) ∧ s.τ 1 = .int .i64 (n - hs.length - csum costSectorSpec (hs.take i)) ∧ s.τ 5 = .int .i64 (i : Int) ∧ 0 ≤ n - hs.length - csum costSectorSpec (hs.take i)) hs.length ⟨0, by simp [go_sem, csum] <;> omega⟩ ?_
  rintro m s ⟨i, hi, rfl, h0, h1, h4, hpos⟩
  simp only [go_sem, ↓reduceIte, Nat.reduceEqDiff, Nat.reduceAdd, Nat.reduceMul, Nat.reduceSub, Nat.reduceLeDiff, Nat.reduceLT, Nat.reduceBEq, Nat.reduceBNe, Int.reduceLT, Int.reduceLE, Int.reduceEq, Int.reduceNeg, Int.reduceToNat, Int.toNat_natCast, Int.natCast_nonneg, List.length_append, List.length_map, List.length_replicate, Bool.and_eq_true, decide_eq_true_eq, List.length_take, List.length_drop, Int.reduceSub, Int.reduceAdd, Int.reduceMul, Int.sub_zero, Int.add_zero, Int.zero_add, reduceCtorEq, decide_true, decide_false, Bool.false_eq_true, List.reduceReplicate, h0, h1, h4]
  refine condP_split (fun h => ?_) (fun h => ?_)
  · have hlt : i < hs.length := by omega
    have hg := get_map (f := sectorSpecV) hlt
    have hx := hok _ (List.getElem_mem hlt)
    have hc := csum_succ costSectorSpec hlt
    have hle := csum_le costSectorSpec hs (i + 1)
    repeat' (first | simp only [go_sem, ↓reduceIte, Nat.reduceEqDiff, Nat.reduceAdd, Nat.reduceMul, Nat.reduceSub, Nat.reduceLeDiff, Nat.reduceLT, Nat.reduceBEq, Nat.reduceBNe, Int.reduceLT, Int.reduceLE, Int.reduceEq, Int.reduceNeg, Int.reduceToNat, Int.toNat_natCast, Int.natCast_nonneg, List.length_append, List.length_map, List.length_replicate, Bool.and_eq_true, decide_eq_true_eq, List.length_take, List.length_drop, Int.reduceSub, Int.reduceAdd, Int.reduceMul, Int.sub_zero, Int.add_zero, Int.zero_add, reduceCtorEq, decide_true, decide_false, Bool.false_eq_true, List.reduceReplicate, *] | simp (disch := omega) only [wrap_i64, wrap_u8, Int.tdiv_eq_ediv_of_nonneg, Int.tmod_eq_emod_of_nonneg, if_pos] | (refine callP_0 (szSectorSpec_ac _ _ hx (by omega)) (rfl) (rfl) ?_) | (refine callX_ac (szSectorSpec_ac _ _ hx (by omega)) (rfl) (rfl) ?_) | refine callP_x ?_ | (refine ret_gen (by first | exact .inr rfl | exact .inl rfl) (rfl) ?_) | (refine guardP_split (fun _ => ?_) (fun _ => ?_)) | (refine condP_split (fun _ => ?_) (fun _ => ?_)) | (refine guardP_splitB (fun _ => ?_) (fun _ => ?_)) | (refine condP_splitB (fun _ => ?_) (fun _ => ?_)))
    all_goals first
      | (refine ⟨hs.length - (i + 1), by omega, i + 1, by omega, rfl, ?_⟩; grind [szR])
      | grind [szR]
  · have e : i = hs.length := by omega
    subst e
    rw [List.take_length] at h1 hpos
    repeat' (first | simp only [go_sem, ↓reduceIte, Nat.reduceEqDiff, Nat.reduceAdd, Nat.reduceMul, Nat.reduceSub, Nat.reduceLeDiff, Nat.reduceLT, Nat.reduceBEq, Nat.reduceBNe, Int.reduceLT, Int.reduceLE, Int.reduceEq, Int.reduceNeg, Int.reduceToNat, Int.toNat_natCast, Int.natCast_nonneg, List.length_append, List.length_map, List.length_replicate, Bool.and_eq_true, decide_eq_true_eq, List.length_take, List.length_drop, Int.reduceSub, Int.reduceAdd, Int.reduceMul, Int.sub_zero, Int.add_zero, Int.zero_add, reduceCtorEq, decide_true, decide_false, Bool.false_eq_true, List.reduceReplicate, *] | simp (disch := omega) only [wrap_i64, wrap_u8, Int.tdiv_eq_ediv_of_nonneg, Int.tmod_eq_emod_of_nonneg, if_pos] | refine callP_x ?_ | (refine ret_gen (by first | exact .inr rfl | exact .inl rfl) (rfl) ?_) | (refine guardP_split (fun _ => ?_) (fun _ => ?_)) | (refine condP_split (fun _ => ?_) (fun _ => ?_)) | (refine guardP_splitB (fun _ => ?_) (fun _ => ?_)) | (refine condP_splitB (fun _ => ?_) (fun _ => ?_)))
    grind [szR]
theorem eqSectorSpecS_ac (hs ks : List SectorSpecD) (hb : hs.length ≤ 1048576) : AC Try.prog 109 [.lst (hs.map sectorSpecV), .lst (ks.map sectorSpecV)] (.bool (decide (hs = ks))) := by
  refine AC.of_run mo Try.func109 Try.call109 ⟨rfl, Try.ntmps109, Try.results109, by kernel_rfl⟩ rfl ?_
  repeat' (first | simp only [go_sem, ↓reduceIte, Nat.reduceEqDiff, Nat.reduceAdd, Nat.reduceMul, Nat.reduceSub, Nat.reduceLeDiff, Nat.reduceLT, Nat.reduceBEq, Nat.reduceBNe, Int.reduceLT, Int.reduceLE, Int.reduceEq, Int.reduceNeg, Int.reduceToNat, Int.toNat_natCast, Int.natCast_nonneg, List.length_append, List.length_map, List.length_replicate, Bool.and_eq_true, decide_eq_true_eq, List.length_take, List.length_drop, Int.reduceSub, Int.reduceAdd, Int.reduceMul, Int.sub_zero, Int.add_zero, Int.zero_add, reduceCtorEq, decide_true, decide_false, Bool.false_eq_true, List.reduceReplicate, *] | simp (disch := omega) only [wrap_i64, wrap_u8, Int.tdiv_eq_ediv_of_nonneg, Int.tmod_eq_emod_of_nonneg, if_pos] | refine callP_x ?_ | (refine ret_gen (by first | exact .inr rfl | exact .inl rfl) (rfl) ?_) | (refine guardP_split (fun _ => ?_) (fun _ => ?_)) | (refine condP_split (fun _ => ?_) (fun _ => ?_)) | (refine guardP_splitB (fun _ => ?_) (fun _ => ?_)) | (refine condP_splitB (fun _ => ?_) (fun _ => ?_)))
  rotate_left
  · symm; rw [decide_eq_false_iff_not]; rintro rfl; contradiction
  have hl : hs.length = ks.length := by omega
  refine sx_loop (fun m s => ∃ i, i ≤ hs.length ∧ m = hs.length - i ∧ s.τ 0 = .lst (hs.map sectorSpecV) ∧ s.τ 1 = .lst (ks.map sectorSpecV) ∧ s.τ 5 = .int .i64 (i : Int) ∧ hs.take i = ks.take i) hs.length ⟨0, by simp [go_sem]⟩ ?_
  rintro m s ⟨i, hi, rfl, h0, h1, h5, ht⟩
  simp only [go_sem, ↓reduceIte, Nat.reduceEqDiff, Nat.reduceAdd, Nat.reduceMul, Nat.reduceSub, Nat.reduceLeDiff, Nat.reduceLT, Nat.reduceBEq, Nat.reduceBNe, Int.reduceLT, Int.reduceLE, Int.reduceEq, Int.reduceNeg, Int.reduceToNat, Int.toNat_natCast, Int.natCast_nonneg, List.length_append, List.length_map, List.length_replicate, Bool.and_eq_true, decide_eq_true_eq, List.length_take, List.length_drop, Int.reduceSub, Int.reduceAdd, Int.reduceMul, Int.sub_zero, Int.add_zero, Int.zero_add, reduceCtorEq, decide_true, decide_false, Bool.false_eq_true, List.reduceReplicate, h0, h1, h5]
  refine condP_split (fun h => ?_) (fun h => ?_)
  · have hlt : i < hs.length := by omega
    have hlk : i < ks.length := by omega
    have hg := get_map (f := sectorSpecV) hlt
    have hk := get_map (f := sectorSpecV) hlk
    have hc := eqSectorSpec_ac hs[i] ks[i]
    clear hl
    repeat' (first | simp only [go_sem, ↓reduceIte, Nat.reduceEqDiff, Nat.reduceAdd, Nat.reduceMul, Nat.reduceSub, Nat.reduceLeDiff, Nat.reduceLT, Nat.reduceBEq, Nat.reduceBNe, Int.reduceLT, Int.reduceLE, Int.reduceEq, Int.reduceNeg, Int.reduceToNat, Int.toNat_natCast, Int.natCast_nonneg, List.length_append, List.length_map, List.length_replicate, Bool.and_eq_true, decide_eq_true_eq, List.length_take, List.length_drop, Int.reduceSub, Int.reduceAdd, Int.reduceMul, Int.sub_zero, Int.add_zero, Int.zero_add, reduceCtorEq, decide_true, decide_false, Bool.false_eq_true, List.reduceReplicate, *] | simp (disch := omega) only [wrap_i64, wrap_u8, Int.tdiv_eq_ediv_of_nonneg, Int.tmod_eq_emod_of_nonneg, if_pos] | (refine callP_0 (hc ..) (rfl) (rfl) ?_) | (refine callX_ac (hc ..) (rfl) (rfl) ?_) | refine callP_x ?_ | (refine ret_gen (by first | exact .inr rfl | exact .inl rfl) (rfl) ?_) | (refine guardP_split (fun _ => ?_) (fun _ => ?_)) | (refine condP_split (fun _ => ?_) (fun _ => ?_)) | (refine guardP_splitB (fun _ => ?_) (fun _ => ?_)) | (refine condP_splitB (fun _ => ?_) (fun _ => ?_)))
    all_goals rename_i he
    all_goals first
      | exact ⟨hs.length - (i + 1), by omega, i + 1, by omega, rfl, by simp only [Int.natCast_add, Int.cast_ofNat_Int], take_step hlt hlk ht he⟩
      | (symm; rw [decide_eq_false_iff_not]; rintro rfl; exact he rfl)
  · have e : i = hs.length := by omega
    subst e
    repeat' (first | simp only [go_sem, ↓reduceIte, Nat.reduceEqDiff, Nat.reduceAdd, Nat.reduceMul, Nat.reduceSub, Nat.reduceLeDiff, Nat.reduceLT, Nat.reduceBEq, Nat.reduceBNe, Int.reduceLT, Int.reduceLE, Int.reduceEq, Int.reduceNeg, Int.reduceToNat, Int.toNat_natCast, Int.natCast_nonneg, List.length_append, List.length_map, List.length_replicate, Bool.and_eq_true, decide_eq_true_eq, List.length_take, List.length_drop, Int.reduceSub, Int.reduceAdd, Int.reduceMul, Int.sub_zero, Int.add_zero, Int.zero_add, reduceCtorEq, decide_true, decide_false, Bool.false_eq_true, List.reduceReplicate, *] | simp (disch := omega) only [wrap_i64, wrap_u8, Int.tdiv_eq_ediv_of_nonneg, Int.tmod_eq_emod_of_nonneg, if_pos] | refine callP_x ?_ | (refine ret_gen (by first | exact .inr rfl | exact .inl rfl) (rfl) ?_) | (refine guardP_split (fun _ => ?_) (fun _ => ?_)) | (refine condP_split (fun _ => ?_) (fun _ => ?_)) | (refine guardP_splitB (fun _ => ?_) (fun _ => ?_)) | (refine condP_splitB (fun _ => ?_) (fun _ => ?_)))
    symm; rw [decide_eq_true_iff]
    rw [List.take_length, hl, List.take_length] at ht
    exact ht
structure TrackSpecD where
  format : Int
  gap : Int
  sectors : List SectorSpecD
  deriving DecidableEq
def trackSpecV (x : TrackSpecD) : AV := .agg [.int .i64 x.format, .int .i64 x.gap, .lst (x.sectors.map sectorSpecV)]
theorem trackSpecV_eq (x : TrackSpecD) : trackSpecV x = .agg [.int .i64 x.format, .int .i64 x.gap, .lst (x.sectors.map sectorSpecV)] := (rfl)
attribute [local go_sem] trackSpecV_eq
def okTrackSpec (x : TrackSpecD) : Prop := (x.sectors.length ≤ maxLen) ∧ (∀ y ∈ x.sectors, okSectorSpec y)
def costTrackSpec (x : TrackSpecD) : Nat := x.sectors.length + csum costSectorSpec x.sectors
theorem trackSpec_ext {x y : TrackSpecD} (h0 : x.format = y.format) (h1 : x.gap = y.gap) (h2 : x.sectors = y.sectors) : x = y := by cases x; cases y; simp_all
theorem dat_trackSpec (n : Nat) {cs : List AV} (h : Dat Try.prog (n + 4) 72 cs) : ∃ x : TrackSpecD, cs = [.int .i64 x.format, .int .i64 x.gap, .lst (x.sectors.map sectorSpecV)] ∧ okTrackSpec x := by
  simp only [dat_succ, tk70, tk2, tk163, tk72, datK_struct, datK_slice, datK_int, datK_str, datK_bool, datF_cons, datF_nil, datVK_struct, datV_eq, datVK_int, datVK_str, datVK_bool, List.map_cons, List.map_nil] at h
  obtain ⟨c0, r0, rfl, ⟨a0, rfl, _⟩, c1, r1, rfl, ⟨a1, rfl, _⟩, c2, r2, rfl, ⟨a2, rfl, h2, g2⟩, rfl⟩ := h
  obtain ⟨b2, rfl, q2⟩ := all_map (f := sectorSpecV) (P := okSectorSpec) fun y hy => by
    obtain ⟨c, rfl, hc⟩ := g2 y hy
    obtain ⟨z, rfl, hz⟩ := dat_sectorSpec (n + 0) hc
    exact ⟨z, rfl, hz⟩
  rw [List.length_map] at h2
  exact ⟨⟨a0, a1, b2⟩, rfl, h2, q2⟩
theorem toTrackSpec_ac (x : TrackSpecD) (hb : x.sectors.length ≤ 1048576) : AC Try.prog 87 [trackSpecV x] (trackSpecV x) := by
  simp only [trackSpecV_eq]
  refine AC.of_run mo Try.func87 Try.call87 ⟨rfl, Try.ntmps87, Try.results87, by kernel_rfl⟩ rfl ?_
  repeat' (first | simp only [go_sem, ↓reduceIte, Nat.reduceEqDiff, Nat.reduceAdd, Nat.reduceMul, Nat.reduceSub, Nat.reduceLeDiff, Nat.reduceLT, Nat.reduceBEq, Nat.reduceBNe, Int.reduceLT, Int.reduceLE, Int.reduceEq, Int.reduceNeg, Int.reduceToNat, Int.toNat_natCast, Int.natCast_nonneg, List.length_append, List.length_map, List.length_replicate, Bool.and_eq_true, decide_eq_true_eq, List.length_take, List.length_drop, Int.reduceSub, Int.reduceAdd, Int.reduceMul, Int.sub_zero, Int.add_zero, Int.zero_add, reduceCtorEq, decide_true, decide_false, Bool.false_eq_true, List.reduceReplicate, *] | simp (disch := omega) only [wrap_i64, wrap_u8, Int.tdiv_eq_ediv_of_nonneg, Int.tmod_eq_emod_of_nonneg, if_pos] | (refine callP_0 (toSectorSpecS_ac _ (by first | exact hb | omega)) (rfl) (rfl) ?_) | (refine callX_ac (toSectorSpecS_ac _ (by first | exact hb | omega)) (rfl) (rfl) ?_) | refine callP_x ?_ | (refine ret_gen (by first | exact .inr rfl | exact .inl rfl) (rfl) ?_) | (refine guardP_split (fun _ => ?_) (fun _ => ?_)) | (refine condP_split (fun _ => ?_) (fun _ => ?_)) | (refine guardP_splitB (fun _ => ?_) (fun _ => ?_)) | (refine condP_splitB (fun _ => ?_) (fun _ => ?_)))
  refine RDs_aggR ?_
  simp only [go_sem, ↓reduceIte, Nat.reduceEqDiff, Nat.reduceAdd, Nat.reduceMul, Nat.reduceSub, Nat.reduceLeDiff, Nat.reduceLT, Nat.reduceBEq, Nat.reduceBNe, Int.reduceLT, Int.reduceLE, Int.reduceEq, Int.reduceNeg, Int.reduceToNat, Int.toNat_natCast, Int.natCast_nonneg, List.length_append, List.length_map, List.length_replicate, Bool.and_eq_true, decide_eq_true_eq, List.length_take, List.length_drop, Int.reduceSub, Int.reduceAdd, Int.reduceMul, Int.sub_zero, Int.add_zero, Int.zero_add, reduceCtorEq, decide_true, decide_false, Bool.false_eq_true, List.reduceReplicate, frz_none, dl_map, List.take_of_length_le, Nat.le_refl, implies_true, *]
theorem szTrackSpec_ac (x : TrackSpecD) (n : Int) (hok : okTrackSpec x) (hn : 0 ≤ n ∧ n ≤ 1048576) : AC Try.prog 83 [trackSpecV x, .int .i64 n] (.int .i64 (szR (costTrackSpec x) n)) := by
  unfold okTrackSpec maxLen at hok
  simp only [trackSpecV_eq]
  refine AC.of_run mo Try.func83 Try.call83 ⟨rfl, Try.ntmps83, Try.results83, by kernel_rfl⟩ rfl ?_
  have r1 : (szR (x.sectors.length + csum costSectorSpec x.sectors) n) ≤ 1048576 := szR_le _ (by omega)
  repeat' (first | simp only [go_sem, ↓reduceIte, Nat.reduceEqDiff, Nat.reduceAdd, Nat.reduceMul, Nat.reduceSub, Nat.reduceLeDiff, Nat.reduceLT, Nat.reduceBEq, Nat.reduceBNe, Int.reduceLT, Int.reduceLE, Int.reduceEq, Int.reduceNeg, Int.reduceToNat, Int.toNat_natCast, Int.natCast_nonneg, List.length_append, List.length_map, List.length_replicate, Bool.and_eq_true, decide_eq_true_eq, List.length_take, List.length_drop, Int.reduceSub, Int.reduceAdd, Int.reduceMul, Int.sub_zero, Int.add_zero, Int.zero_add, reduceCtorEq, decide_true, decide_false, Bool.false_eq_true, List.reduceReplicate, *] | simp (disch := omega) only [wrap_i64, wrap_u8, Int.tdiv_eq_ediv_of_nonneg, Int.tmod_eq_emod_of_nonneg, if_pos] | (refine callP_0 (szSectorSpecS_ac _ _ (by simp_all [maxLen]) (by simp_all [maxLen]) (by first | omega | grind [szR])) (rfl) (rfl) ?_) | (refine callX_ac (szSectorSpecS_ac _ _ (by simp_all [maxLen]) (by simp_all [maxLen]) (by first | omega | grind [szR])) (rfl) (rfl) ?_) | refine callP_x ?_ | (refine ret_gen (by first | exact .inr rfl | exact .inl rfl) (rfl) ?_) | (refine guardP_split (fun _ => ?_) (fun _ => ?_)) | (refine condP_split (fun _ => ?_) (fun _ => ?_)) | (refine guardP_splitB (fun _ => ?_) (fun _ => ?_)) | (refine condP_splitB (fun _ => ?_) (fun _ => ?_)))
  all_goals grind [szR, costTrackSpec]
theorem eqTrackSpec_ac (x y : TrackSpecD) (hb : x.sectors.length ≤ 1048576) : AC Try.prog 76 [trackSpecV x, trackSpecV y] (.bool (decide (x = y))) := by
  simp only [trackSpecV_eq]
  refine AC.of_run mo Try.func76 Try.call76 ⟨rfl, Try.ntmps76, Try.results76, by kernel_rfl⟩ rfl ?_
  repeat' (first | simp only [go_sem, ↓reduceIte, Nat.reduceEqDiff, Nat.reduceAdd, Nat.reduceMul, Nat.reduceSub, Nat.reduceLeDiff, Nat.reduceLT, Nat.reduceBEq, Nat.reduceBNe, Int.reduceLT, Int.reduceLE, Int.reduceEq, Int.reduceNeg, Int.reduceToNat, Int.toNat_natCast, Int.natCast_nonneg, List.length_append, List.length_map, List.length_replicate, Bool.and_eq_true, decide_eq_true_eq, List.length_take, List.length_drop, Int.reduceSub, Int.reduceAdd, Int.reduceMul, Int.sub_zero, Int.add_zero, Int.zero_add, reduceCtorEq, decide_true, decide_false, Bool.false_eq_true, List.reduceReplicate, *] | simp (disch := omega) only [wrap_i64, wrap_u8, Int.tdiv_eq_ediv_of_nonneg, Int.tmod_eq_emod_of_nonneg, if_pos] | (refine callP_0 (eqSectorSpecS_ac _ _ (by first | exact hb | omega)) (rfl) (rfl) ?_) | (refine callX_ac (eqSectorSpecS_ac _ _ (by first | exact hb | omega)) (rfl) (rfl) ?_) | refine callP_x ?_ | (refine ret_gen (by first | exact .inr rfl | exact .inl rfl) (rfl) ?_) | (refine guardP_split (fun _ => ?_) (fun _ => ?_)) | (refine condP_split (fun _ => ?_) (fun _ => ?_)) | (refine guardP_splitB (fun _ => ?_) (fun _ => ?_)) | (refine condP_splitB (fun _ => ?_) (fun _ => ?_)))
  all_goals first
    | (symm; rw [decide_eq_true_iff]; exact trackSpec_ext (by first | assumption | simp_all) (by first | assumption | simp_all) (by first | assumption | simp_all))
    | (symm; rw [decide_eq_false_iff_not]; rintro rfl; simp_all)
structure BenchD where
  track : TrackSpecD
  cells : List UInt8
  system : Int
  disk : List (List UInt8)
  p : List UInt8
  q : List UInt8
  deriving DecidableEq
def benchV (x : BenchD) : AV := .agg [.int .i64 x.track.format, .int .i64 x.track.gap, .lst (x.track.sectors.map sectorSpecV), .str x.cells, .int .i64 x.system, .lst (x.disk.map .str), .str x.p, .str x.q]
theorem benchV_eq (x : BenchD) : benchV x = .agg [.int .i64 x.track.format, .int .i64 x.track.gap, .lst (x.track.sectors.map sectorSpecV), .str x.cells, .int .i64 x.system, .lst (x.disk.map .str), .str x.p, .str x.q] := (rfl)
attribute [local go_sem] benchV_eq
def okBench (x : BenchD) : Prop := (okTrackSpec x.track) ∧ (x.cells.length ≤ maxLen) ∧ (x.disk.length ≤ maxLen) ∧ (∀ y ∈ x.disk, y.length ≤ maxLen) ∧ (x.p.length ≤ maxLen) ∧ (x.q.length ≤ maxLen)
def costBench (x : BenchD) : Nat := costTrackSpec x.track + x.cells.length + x.disk.length + csum List.length x.disk + x.p.length + x.q.length
theorem bench_ext {x y : BenchD} (h0 : x.track = y.track) (h1 : x.cells = y.cells) (h2 : x.system = y.system) (h3 : x.disk = y.disk) (h4 : x.p = y.p) (h5 : x.q = y.q) : x = y := by cases x; cases y; simp_all
theorem dat_bench (n : Nat) {cs : List AV} (h : Dat Try.prog (n + 5) 74 cs) : ∃ x : BenchD, cs = [.int .i64 x.track.format, .int .i64 x.track.gap, .lst (x.track.sectors.map sectorSpecV), .str x.cells, .int .i64 x.system, .lst (x.disk.map .str), .str x.p, .str x.q] ∧ okBench x := by
  simp only [dat_succ, tk22, tk2, tk74, tk9, datK_struct, datK_slice, datK_int, datK_str, datK_bool, datF_cons, datF_nil, datVK_struct, datV_eq, datVK_int, datVK_str, datVK_bool, List.map_cons, List.map_nil] at h
  obtain ⟨c0, r0, rfl, k0, c1, r1, rfl, ⟨a1, rfl, h1⟩, c2, r2, rfl, ⟨a2, rfl, _⟩, c3, r3, rfl, ⟨a3, rfl, h3, g3⟩, c4, r4, rfl, ⟨a4, rfl, h4⟩, c5, r5, rfl, ⟨a5, rfl, h5⟩, rfl⟩ := h
  obtain ⟨b0, rfl, q0⟩ := dat_trackSpec (n + 0) k0
  obtain ⟨b3, rfl, q3⟩ := all_map (f := AV.str) (P := fun x => x.length ≤ maxLen) fun y hy => by
    obtain ⟨c, hc, h'⟩ := g3 y hy
    simp only [List.cons.injEq, and_true] at hc
    exact ⟨c, hc, h'⟩
  rw [List.length_map] at h3
  exact ⟨⟨b0, a1, a2, b3, a4, a5⟩, rfl, q0, h1, h3, q3, h4, h5⟩
theorem toBench_ac (x : BenchD) (hb : x.track.sectors.length ≤ 1048576 ∧ x.disk.length ≤ 1048576) : AC Try.prog 49 [benchV x] (benchV x) := by
  simp only [benchV_eq]
  refine AC.of_run mo Try.func49 Try.call49 ⟨rfl, Try.ntmps49, Try.results49, by kernel_rfl⟩ rfl ?_
  repeat' (first | simp only [go_sem, ↓reduceIte, Nat.reduceEqDiff, Nat.reduceAdd, Nat.reduceMul, Nat.reduceSub, Nat.reduceLeDiff, Nat.reduceLT, Nat.reduceBEq, Nat.reduceBNe, Int.reduceLT, Int.reduceLE, Int.reduceEq, Int.reduceNeg, Int.reduceToNat, Int.toNat_natCast, Int.natCast_nonneg, List.length_append, List.length_map, List.length_replicate, Bool.and_eq_true, decide_eq_true_eq, List.length_take, List.length_drop, Int.reduceSub, Int.reduceAdd, Int.reduceMul, Int.sub_zero, Int.add_zero, Int.zero_add, reduceCtorEq, decide_true, decide_false, Bool.false_eq_true, List.reduceReplicate, *] | simp (disch := omega) only [wrap_i64, wrap_u8, Int.tdiv_eq_ediv_of_nonneg, Int.tmod_eq_emod_of_nonneg, if_pos] | (refine callP_0 (toTrackSpec_ac _ (by first | exact hb | omega)) (rfl) (rfl) ?_) | (refine callP_0 (toStringS_ac _ (by first | exact hb | omega)) (rfl) (rfl) ?_) | (refine callX_ac (toTrackSpec_ac _ (by first | exact hb | omega)) (rfl) (rfl) ?_) | (refine callX_ac (toStringS_ac _ (by first | exact hb | omega)) (rfl) (rfl) ?_) | refine callP_x ?_ | (refine ret_gen (by first | exact .inr rfl | exact .inl rfl) (rfl) ?_) | (refine guardP_split (fun _ => ?_) (fun _ => ?_)) | (refine condP_split (fun _ => ?_) (fun _ => ?_)) | (refine guardP_splitB (fun _ => ?_) (fun _ => ?_)) | (refine condP_splitB (fun _ => ?_) (fun _ => ?_)))
  refine RDs_aggR ?_
  simp only [go_sem, ↓reduceIte, Nat.reduceEqDiff, Nat.reduceAdd, Nat.reduceMul, Nat.reduceSub, Nat.reduceLeDiff, Nat.reduceLT, Nat.reduceBEq, Nat.reduceBNe, Int.reduceLT, Int.reduceLE, Int.reduceEq, Int.reduceNeg, Int.reduceToNat, Int.toNat_natCast, Int.natCast_nonneg, List.length_append, List.length_map, List.length_replicate, Bool.and_eq_true, decide_eq_true_eq, List.length_take, List.length_drop, Int.reduceSub, Int.reduceAdd, Int.reduceMul, Int.sub_zero, Int.add_zero, Int.zero_add, reduceCtorEq, decide_true, decide_false, Bool.false_eq_true, List.reduceReplicate, frz_none, dl_map, List.take_of_length_le, Nat.le_refl, implies_true, *]
theorem szBench_ac (x : BenchD) (n : Int) (hok : okBench x) (hn : 0 ≤ n ∧ n ≤ 1048576) : AC Try.prog 47 [benchV x, .int .i64 n] (.int .i64 (szR (costBench x) n)) := by
  unfold okBench maxLen at hok
  simp only [benchV_eq]
  refine AC.of_run mo Try.func47 Try.call47 ⟨rfl, Try.ntmps47, Try.results47, by kernel_rfl⟩ rfl ?_
  have r1 : (szR (costTrackSpec x.track) n) ≤ 1048576 := szR_le _ (by omega)
  have r2 : (szR (x.disk.length + csum List.length x.disk) ((szR (costTrackSpec x.track) n) - (x.cells.length : Int))) ≤ 1048576 := szR_le _ (by omega)
  repeat' (first | simp only [go_sem, ↓reduceIte, Nat.reduceEqDiff, Nat.reduceAdd, Nat.reduceMul, Nat.reduceSub, Nat.reduceLeDiff, Nat.reduceLT, Nat.reduceBEq, Nat.reduceBNe, Int.reduceLT, Int.reduceLE, Int.reduceEq, Int.reduceNeg, Int.reduceToNat, Int.toNat_natCast, Int.natCast_nonneg, List.length_append, List.length_map, List.length_replicate, Bool.and_eq_true, decide_eq_true_eq, List.length_take, List.length_drop, Int.reduceSub, Int.reduceAdd, Int.reduceMul, Int.sub_zero, Int.add_zero, Int.zero_add, reduceCtorEq, decide_true, decide_false, Bool.false_eq_true, List.reduceReplicate, *] | simp (disch := omega) only [wrap_i64, wrap_u8, Int.tdiv_eq_ediv_of_nonneg, Int.tmod_eq_emod_of_nonneg, if_pos] | (refine callP_0 (szTrackSpec_ac _ _ (by simp_all [maxLen]) (by first | omega | grind [szR])) (rfl) (rfl) ?_) | (refine callP_0 (szStringS_ac _ _ (by simp_all [maxLen]) (by simp_all [maxLen]) (by first | omega | grind [szR])) (rfl) (rfl) ?_) | (refine callX_ac (szTrackSpec_ac _ _ (by simp_all [maxLen]) (by first | omega | grind [szR])) (rfl) (rfl) ?_) | (refine callX_ac (szStringS_ac _ _ (by simp_all [maxLen]) (by simp_all [maxLen]) (by first | omega | grind [szR])) (rfl) (rfl) ?_) | refine callP_x ?_ | (refine ret_gen (by first | exact .inr rfl | exact .inl rfl) (rfl) ?_) | (refine guardP_split (fun _ => ?_) (fun _ => ?_)) | (refine condP_split (fun _ => ?_) (fun _ => ?_)) | (refine guardP_splitB (fun _ => ?_) (fun _ => ?_)) | (refine condP_splitB (fun _ => ?_) (fun _ => ?_)))
  all_goals grind [szR, costBench]
theorem eqBench_ac (x y : BenchD) (hb : x.track.sectors.length ≤ 1048576 ∧ x.disk.length ≤ 1048576) : AC Try.prog 40 [benchV x, benchV y] (.bool (decide (x = y))) := by
  simp only [benchV_eq]
  refine AC.of_run mo Try.func40 Try.call40 ⟨rfl, Try.ntmps40, Try.results40, by kernel_rfl⟩ rfl ?_
  repeat' (first | simp only [go_sem, ↓reduceIte, Nat.reduceEqDiff, Nat.reduceAdd, Nat.reduceMul, Nat.reduceSub, Nat.reduceLeDiff, Nat.reduceLT, Nat.reduceBEq, Nat.reduceBNe, Int.reduceLT, Int.reduceLE, Int.reduceEq, Int.reduceNeg, Int.reduceToNat, Int.toNat_natCast, Int.natCast_nonneg, List.length_append, List.length_map, List.length_replicate, Bool.and_eq_true, decide_eq_true_eq, List.length_take, List.length_drop, Int.reduceSub, Int.reduceAdd, Int.reduceMul, Int.sub_zero, Int.add_zero, Int.zero_add, reduceCtorEq, decide_true, decide_false, Bool.false_eq_true, List.reduceReplicate, *] | simp (disch := omega) only [wrap_i64, wrap_u8, Int.tdiv_eq_ediv_of_nonneg, Int.tmod_eq_emod_of_nonneg, if_pos] | (refine callP_0 (eqTrackSpec_ac _ _ (by first | exact hb | omega)) (rfl) (rfl) ?_) | (refine callP_0 (eqStringS_ac _ _ (by first | exact hb | omega)) (rfl) (rfl) ?_) | (refine callX_ac (eqTrackSpec_ac _ _ (by first | exact hb | omega)) (rfl) (rfl) ?_) | (refine callX_ac (eqStringS_ac _ _ (by first | exact hb | omega)) (rfl) (rfl) ?_) | refine callP_x ?_ | (refine ret_gen (by first | exact .inr rfl | exact .inl rfl) (rfl) ?_) | (refine guardP_split (fun _ => ?_) (fun _ => ?_)) | (refine condP_split (fun _ => ?_) (fun _ => ?_)) | (refine guardP_splitB (fun _ => ?_) (fun _ => ?_)) | (refine condP_splitB (fun _ => ?_) (fun _ => ?_)))
  all_goals first
    | (symm; rw [decide_eq_true_iff]; exact bench_ext (by first | assumption | simp_all) (by first | assumption | simp_all) (by first | assumption | simp_all) (by first | assumption | simp_all) (by first | assumption | simp_all) (by first | assumption | simp_all))
    | (symm; rw [decide_eq_false_iff_not]; rintro rfl; simp_all)
attribute [local go_sem] sectorSpecV_eq
theorem sectorSpec_deq {x y : SectorSpecD} (e : (decide (x.cylinder = y.cylinder) && (decide (x.hea = y.hea) && (decide (x.num = y.num) && (decide (x.siz = y.siz) && (decide (x.dat = y.dat) && ((x.deleted == y.deleted) && ((x.badId == y.badId) && (x.badData == y.badData)))))))) = true) : x = y := by cases x; cases y; simp_all
theorem sectorSpec_dne {x y : SectorSpecD} (e : (decide (x.cylinder = y.cylinder) && (decide (x.hea = y.hea) && (decide (x.num = y.num) && (decide (x.siz = y.siz) && (decide (x.dat = y.dat) && ((x.deleted == y.deleted) && ((x.badId == y.badId) && (x.badData == y.badData)))))))) = false) : x ≠ y := by rintro rfl; simp at e
theorem equalSectorSpec_ac (hs ks : List SectorSpecD) (hb : hs.length ≤ 1048576) : AC Try.prog 120 [.lst (hs.map sectorSpecV), .lst (ks.map sectorSpecV)] (.bool (decide (hs = ks))) := by
  refine AC.of_run mo Try.func120 Try.call120 ⟨rfl, Try.ntmps120, Try.results120, by kernel_rfl⟩ rfl ?_
  repeat' (first | simp only [go_sem, ↓reduceIte, Nat.reduceEqDiff, Nat.reduceAdd, Nat.reduceMul, Nat.reduceSub, Nat.reduceLeDiff, Nat.reduceLT, Nat.reduceBEq, Nat.reduceBNe, Int.reduceLT, Int.reduceLE, Int.reduceEq, Int.reduceNeg, Int.reduceToNat, Int.toNat_natCast, Int.natCast_nonneg, List.length_append, List.length_map, List.length_replicate, Bool.and_eq_true, decide_eq_true_eq, List.length_take, List.length_drop, Int.reduceSub, Int.reduceAdd, Int.reduceMul, Int.sub_zero, Int.add_zero, Int.zero_add, reduceCtorEq, decide_true, decide_false, Bool.false_eq_true, List.reduceReplicate, *] | simp (disch := omega) only [wrap_i64, wrap_u8, Int.tdiv_eq_ediv_of_nonneg, Int.tmod_eq_emod_of_nonneg, if_pos] | refine callP_x ?_ | (refine ret_gen (by first | exact .inr rfl | exact .inl rfl) (rfl) ?_) | (refine guardP_split (fun _ => ?_) (fun _ => ?_)) | (refine condP_split (fun _ => ?_) (fun _ => ?_)) | (refine guardP_splitB (fun _ => ?_) (fun _ => ?_)) | (refine condP_splitB (fun _ => ?_) (fun _ => ?_)))
  rotate_left
  · symm; rw [decide_eq_false_iff_not]; rintro rfl; contradiction
  have hl : hs.length = ks.length := by omega
  refine sx_loop (fun m s => ∃ i, i ≤ hs.length ∧ m = hs.length - i ∧ s.τ 0 = .lst (hs.map sectorSpecV) ∧ s.τ 1 = .lst (ks.map sectorSpecV) ∧ s.τ 12 = .int .i64 hs.length ∧ s.τ 13 = .int .i64 (i : Int) ∧ hs.take i = ks.take i) hs.length ⟨0, by simp [go_sem, hl]⟩ ?_
  rintro m s ⟨i, hi, rfl, h0, h1, h12, h13, ht⟩
  simp only [go_sem, ↓reduceIte, Nat.reduceEqDiff, Nat.reduceAdd, Nat.reduceMul, Nat.reduceSub, Nat.reduceLeDiff, Nat.reduceLT, Nat.reduceBEq, Nat.reduceBNe, Int.reduceLT, Int.reduceLE, Int.reduceEq, Int.reduceNeg, Int.reduceToNat, Int.toNat_natCast, Int.natCast_nonneg, List.length_append, List.length_map, List.length_replicate, Bool.and_eq_true, decide_eq_true_eq, List.length_take, List.length_drop, Int.reduceSub, Int.reduceAdd, Int.reduceMul, Int.sub_zero, Int.add_zero, Int.zero_add, reduceCtorEq, decide_true, decide_false, Bool.false_eq_true, List.reduceReplicate, h0, h1, h12, h13]
  refine condP_split (fun h => ?_) (fun h => ?_)
  · have hlt : i < hs.length := by omega
    have hlk : i < ks.length := by omega
    have hg := get_map (f := sectorSpecV) hlt
    have hk := get_map (f := sectorSpecV) hlk
    clear hl
    repeat' (first | simp only [go_sem, ↓reduceIte, Nat.reduceEqDiff, Nat.reduceAdd, Nat.reduceMul, Nat.reduceSub, Nat.reduceLeDiff, Nat.reduceLT, Nat.reduceBEq, Nat.reduceBNe, Int.reduceLT, Int.reduceLE, Int.reduceEq, Int.reduceNeg, Int.reduceToNat, Int.toNat_natCast, Int.natCast_nonneg, List.length_append, List.length_map, List.length_replicate, Bool.and_eq_true, decide_eq_true_eq, List.length_take, List.length_drop, Int.reduceSub, Int.reduceAdd, Int.reduceMul, Int.sub_zero, Int.add_zero, Int.zero_add, reduceCtorEq, decide_true, decide_false, Bool.false_eq_true, List.reduceReplicate, *] | simp (disch := omega) only [wrap_i64, wrap_u8, Int.tdiv_eq_ediv_of_nonneg, Int.tmod_eq_emod_of_nonneg, if_pos] | refine callP_x ?_ | (refine ret_gen (by first | exact .inr rfl | exact .inl rfl) (rfl) ?_) | (refine guardP_split (fun _ => ?_) (fun _ => ?_)) | (refine condP_split (fun _ => ?_) (fun _ => ?_)) | (refine guardP_splitB (fun _ => ?_) (fun _ => ?_)) | (refine condP_splitB (fun _ => ?_) (fun _ => ?_)))
    all_goals rename_i he
    all_goals first
      | exact ⟨hs.length - (i + 1), by omega, i + 1, by omega, rfl, by simp only [Int.natCast_add, Int.cast_ofNat_Int], take_step hlt hlk ht (sectorSpec_deq he)⟩
      | (symm; rw [decide_eq_false_iff_not]; rintro rfl; exact sectorSpec_dne he rfl)
  · have e : i = hs.length := by omega
    subst e
    repeat' (first | simp only [go_sem, ↓reduceIte, Nat.reduceEqDiff, Nat.reduceAdd, Nat.reduceMul, Nat.reduceSub, Nat.reduceLeDiff, Nat.reduceLT, Nat.reduceBEq, Nat.reduceBNe, Int.reduceLT, Int.reduceLE, Int.reduceEq, Int.reduceNeg, Int.reduceToNat, Int.toNat_natCast, Int.natCast_nonneg, List.length_append, List.length_map, List.length_replicate, Bool.and_eq_true, decide_eq_true_eq, List.length_take, List.length_drop, Int.reduceSub, Int.reduceAdd, Int.reduceMul, Int.sub_zero, Int.add_zero, Int.zero_add, reduceCtorEq, decide_true, decide_false, Bool.false_eq_true, List.reduceReplicate, *] | simp (disch := omega) only [wrap_i64, wrap_u8, Int.tdiv_eq_ediv_of_nonneg, Int.tmod_eq_emod_of_nonneg, if_pos] | refine callP_x ?_ | (refine ret_gen (by first | exact .inr rfl | exact .inl rfl) (rfl) ?_) | (refine guardP_split (fun _ => ?_) (fun _ => ?_)) | (refine condP_split (fun _ => ?_) (fun _ => ?_)) | (refine guardP_splitB (fun _ => ?_) (fun _ => ?_)) | (refine condP_splitB (fun _ => ?_) (fun _ => ?_)))
    symm; rw [decide_eq_true_iff]
    rw [List.take_length, hl, List.take_length] at ht
    exact ht
theorem equalString_ac (hs ks : List (List UInt8)) (hb : hs.length ≤ 1048576) : AC Try.prog 90 [.lst (hs.map AV.str), .lst (ks.map AV.str)] (.bool (decide (hs = ks))) := by
  refine AC.of_run mo Try.func90 Try.call90 ⟨rfl, Try.ntmps90, Try.results90, by kernel_rfl⟩ rfl ?_
  repeat' (first | simp only [go_sem, ↓reduceIte, Nat.reduceEqDiff, Nat.reduceAdd, Nat.reduceMul, Nat.reduceSub, Nat.reduceLeDiff, Nat.reduceLT, Nat.reduceBEq, Nat.reduceBNe, Int.reduceLT, Int.reduceLE, Int.reduceEq, Int.reduceNeg, Int.reduceToNat, Int.toNat_natCast, Int.natCast_nonneg, List.length_append, List.length_map, List.length_replicate, Bool.and_eq_true, decide_eq_true_eq, List.length_take, List.length_drop, Int.reduceSub, Int.reduceAdd, Int.reduceMul, Int.sub_zero, Int.add_zero, Int.zero_add, reduceCtorEq, decide_true, decide_false, Bool.false_eq_true, List.reduceReplicate, *] | simp (disch := omega) only [wrap_i64, wrap_u8, Int.tdiv_eq_ediv_of_nonneg, Int.tmod_eq_emod_of_nonneg, if_pos] | refine callP_x ?_ | (refine ret_gen (by first | exact .inr rfl | exact .inl rfl) (rfl) ?_) | (refine guardP_split (fun _ => ?_) (fun _ => ?_)) | (refine condP_split (fun _ => ?_) (fun _ => ?_)) | (refine guardP_splitB (fun _ => ?_) (fun _ => ?_)) | (refine condP_splitB (fun _ => ?_) (fun _ => ?_)))
  rotate_left
  · symm; rw [decide_eq_false_iff_not]; rintro rfl; contradiction
  have hl : hs.length = ks.length := by omega
  refine sx_loop (fun m s => ∃ i, i ≤ hs.length ∧ m = hs.length - i ∧ s.τ 0 = .lst (hs.map AV.str) ∧ s.τ 1 = .lst (ks.map AV.str) ∧ s.τ 12 = .int .i64 hs.length ∧ s.τ 13 = .int .i64 (i : Int) ∧ hs.take i = ks.take i) hs.length ⟨0, by simp [go_sem, hl]⟩ ?_
  rintro m s ⟨i, hi, rfl, h0, h1, h12, h13, ht⟩
  simp only [go_sem, ↓reduceIte, Nat.reduceEqDiff, Nat.reduceAdd, Nat.reduceMul, Nat.reduceSub, Nat.reduceLeDiff, Nat.reduceLT, Nat.reduceBEq, Nat.reduceBNe, Int.reduceLT, Int.reduceLE, Int.reduceEq, Int.reduceNeg, Int.reduceToNat, Int.toNat_natCast, Int.natCast_nonneg, List.length_append, List.length_map, List.length_replicate, Bool.and_eq_true, decide_eq_true_eq, List.length_take, List.length_drop, Int.reduceSub, Int.reduceAdd, Int.reduceMul, Int.sub_zero, Int.add_zero, Int.zero_add, reduceCtorEq, decide_true, decide_false, Bool.false_eq_true, List.reduceReplicate, h0, h1, h12, h13]
  refine condP_split (fun h => ?_) (fun h => ?_)
  · have hlt : i < hs.length := by omega
    have hlk : i < ks.length := by omega
    have hg := get_map (f := AV.str) hlt
    have hk := get_map (f := AV.str) hlk
    clear hl
    repeat' (first | simp only [go_sem, ↓reduceIte, Nat.reduceEqDiff, Nat.reduceAdd, Nat.reduceMul, Nat.reduceSub, Nat.reduceLeDiff, Nat.reduceLT, Nat.reduceBEq, Nat.reduceBNe, Int.reduceLT, Int.reduceLE, Int.reduceEq, Int.reduceNeg, Int.reduceToNat, Int.toNat_natCast, Int.natCast_nonneg, List.length_append, List.length_map, List.length_replicate, Bool.and_eq_true, decide_eq_true_eq, List.length_take, List.length_drop, Int.reduceSub, Int.reduceAdd, Int.reduceMul, Int.sub_zero, Int.add_zero, Int.zero_add, reduceCtorEq, decide_true, decide_false, Bool.false_eq_true, List.reduceReplicate, *] | simp (disch := omega) only [wrap_i64, wrap_u8, Int.tdiv_eq_ediv_of_nonneg, Int.tmod_eq_emod_of_nonneg, if_pos] | refine callP_x ?_ | (refine ret_gen (by first | exact .inr rfl | exact .inl rfl) (rfl) ?_) | (refine guardP_split (fun _ => ?_) (fun _ => ?_)) | (refine condP_split (fun _ => ?_) (fun _ => ?_)) | (refine guardP_splitB (fun _ => ?_) (fun _ => ?_)) | (refine condP_splitB (fun _ => ?_) (fun _ => ?_)))
    all_goals rename_i he
    all_goals first
      | exact ⟨hs.length - (i + 1), by omega, i + 1, by omega, rfl, by simp only [Int.natCast_add, Int.cast_ofNat_Int], take_step hlt hlk ht (id he)⟩
      | (symm; rw [decide_eq_false_iff_not]; rintro rfl; exact id he rfl)
  · have e : i = hs.length := by omega
    subst e
    repeat' (first | simp only [go_sem, ↓reduceIte, Nat.reduceEqDiff, Nat.reduceAdd, Nat.reduceMul, Nat.reduceSub, Nat.reduceLeDiff, Nat.reduceLT, Nat.reduceBEq, Nat.reduceBNe, Int.reduceLT, Int.reduceLE, Int.reduceEq, Int.reduceNeg, Int.reduceToNat, Int.toNat_natCast, Int.natCast_nonneg, List.length_append, List.length_map, List.length_replicate, Bool.and_eq_true, decide_eq_true_eq, List.length_take, List.length_drop, Int.reduceSub, Int.reduceAdd, Int.reduceMul, Int.sub_zero, Int.add_zero, Int.zero_add, reduceCtorEq, decide_true, decide_false, Bool.false_eq_true, List.reduceReplicate, *] | simp (disch := omega) only [wrap_i64, wrap_u8, Int.tdiv_eq_ediv_of_nonneg, Int.tmod_eq_emod_of_nonneg, if_pos] | refine callP_x ?_ | (refine ret_gen (by first | exact .inr rfl | exact .inl rfl) (rfl) ?_) | (refine guardP_split (fun _ => ?_) (fun _ => ?_)) | (refine condP_split (fun _ => ?_) (fun _ => ?_)) | (refine guardP_splitB (fun _ => ?_) (fun _ => ?_)) | (refine condP_splitB (fun _ => ?_) (fun _ => ?_)))
    symm; rw [decide_eq_true_iff]
    rw [List.take_length, hl, List.take_length] at ht
    exact ht
end Go.Ab
