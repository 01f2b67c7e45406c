/- What the reference draws: strings with a period. Conditions: none. -/
import Derived.Test.YtjoomndcdpkplaaDoorCDraw
import Derived.Test.YtjoomndcdpkplaaDoorCPer
namespace Go.Ab
open Go.RowKit Go.Proofs
set_option maxRecDepth 10000
set_option maxHeartbeats 4000000
set_option linter.unusedSimpArgs false
set_option linter.unusedVariables false
def nextN (cs : List UInt8) (σ : Int × Int) : Nat → Int × Int
  | 0 => σ
  | i + 1 => nextS cs (nextN cs σ i)
def wordB (cs : List UInt8) (σ : Int × Int) : Nat → List UInt8
  | 0 => []
  | i + 1 => wordB cs σ i ++ [UInt8.ofNat (nextV cs (nextN cs σ i)).toNat]
theorem nextN_in (cs : List UInt8) {σ : Int × Int} (h : 0 ≤ σ.1) (k : Nat) : 0 ≤ (nextN cs σ k).1 ∧ (nextN cs σ k).1 ≤ σ.1 + k := by
  induction k with
  | zero => simp only [nextN]; omega
  | succ k ih =>
    have h1 := nextS_in cs ih.1
    simp only [nextN]; omega
theorem wordB_len (cs : List UInt8) (σ : Int × Int) (k : Nat) : (wordB cs σ k).length = k := by
  induction k with
  | zero => rfl
  | succ k ih => simp only [wordB, List.length_append, ih, List.length_cons, List.length_nil]
theorem clean_src {H : Heap} (h : Clean H) (cs : List UInt8) (σ : Int × Int) (g : Nat) : Clean (upd H 901002 (some (srcB cs σ g))) := by
  intro id B hB x hx
  simp only [upd] at hB
  split at hB
  · simp only [Option.some.injEq] at hB
    subst hB
    simp only [srcB, flat, AV.cells, List.flatMap_cons, List.flatMap_nil, List.append_nil, List.mem_cons, List.not_mem_nil, or_false] at hx
    rcases hx with rfl | rfl | rfl <;> rfl
  · exact h id B hB x hx
theorem clean0 : Clean hp0 := fun _ _ h => by cases h
theorem word_aw (cs : List UInt8) (hc : cs.length ≤ 1048576) (g : Nat) (σ : Int × Int) (h0 : 0 ≤ σ.1 ∧ σ.1 ≤ 800000) (n : Int) (hn : 1 ≤ n ∧ n ≤ 100) (H : Heap) (hF : Free 2000000 H) (hcl : Clean H) (hH : H 901002 = some (srcB cs σ g)) :
    AW Tryd.prog 33 [.ptr 901002 g 0 0, .int .i64 n] H (.str (wordB cs (pickS cs σ n) (pickV cs σ n).toNat)) (upd H 901002 (some (srcB cs (nextN cs (pickS cs σ n) (pickV cs σ n).toNat) g))) := by
  have p1 := pickV_in cs σ hn.1
  have q1 := pickS_in cs h0.1 (n := n)
  have a1 : ∀ (H' : Heap), Free 3000000 H' → H' 901002 = some (srcB cs σ g) → AW Tryd.prog 34 [.ptr 901002 g 0 0, .int .i64 n] H' (.int .i64 (pickV cs σ n)) (upd H' 901002 (some (srcB cs (pickS cs σ n) g))) :=
    fun H' f1 f2 => pick_aw cs hc g σ (by omega) n (by omega) H' f1 f2
  generalize pickS cs σ n = σ1 at *
  obtain ⟨K, hK⟩ : ∃ K : Nat, pickV cs σ n = (K : Int) := ⟨(pickV cs σ n).toNat, by omega⟩
  rw [hK] at p1 a1 ⊢
  clear hK
  rw [Int.toNat_natCast]
  have hnN := fun k => nextN_in cs (σ := σ1) q1.1 k
  have hwL := wordB_len cs σ1
  refine AW.of_runS 2000000 mo Tryd.func33 Tryd.call33 ⟨rfl, Tryd.ntmps33, Tryd.results33, by kernel_rfl⟩ rfl rfl (clean_src hcl _ _ _) ?_
  generalize hQ : (fun e s => ∃ H', retW Tryd.prog [ResultVar.tmp 4] (.str (wordB cs σ1 K)) H' e s ∧ Sub H H' (upd H 901002 (some (srcB cs (nextN cs σ1 K) g)))) = Q
  repeat' (first | simp only [go_sem, ↓reduceIte, Nat.reduceEqDiff, Nat.reduceAdd, Nat.reduceMul, Nat.reduceSub, Nat.reduceLeDiff, Nat.reduceLT, Nat.reduceBEq, Nat.reduceBNe, Int.reduceLT, Int.reduceLE, Int.reduceEq, Int.reduceNeg, Int.reduceToNat, Int.toNat_natCast, Int.natCast_nonneg, List.length_append, List.length_map, List.length_replicate, Bool.and_eq_true, decide_eq_true_eq, List.length_take, List.length_drop, Int.reduceSub, Int.reduceAdd, Int.reduceMul, Int.sub_zero, Int.add_zero, Int.zero_add, reduceCtorEq, decide_true, decide_false, Bool.false_eq_true, List.reduceReplicate, *] | simp (disch := omega) only [wrap_i64, wrap_u8, Int.tdiv_eq_ediv_of_nonneg, Int.tmod_eq_emod_of_nonneg, if_pos] | (refine callP_aw (a1 _ (by intro j hj <;> simp only [upd] <;> (repeat' split) <;> first | omega | exact hF j (by omega)) (by simp [upd, hH])) ?_) | refine callP_x ?_ | (refine ret_gen (by first | exact .inr rfl | exact .inl rfl) (rfl) ?_) | (refine guardP_split (fun _ => ?_) (fun _ => ?_)) | (refine condP_split (fun _ => ?_) (fun _ => ?_)) | (refine guardP_splitB (fun _ => ?_) (fun _ => ?_)) | (refine condP_splitB (fun _ => ?_) (fun _ => ?_)))
  refine sx_loop (fun mm s => ∃ i gb, i ≤ K ∧ mm = K - i ∧ s.nx = 2000000 ∧ s.τ 0 = .ptr 901002 g 0 0 ∧ s.τ 5 = .ref 2001000 gb 0 i ∧ s.τ 6 = .int .i64 ((K - i : Nat) : Int) ∧ s.H 2001000 = some ⟨1, bytesA (wordB cs σ1 i), gb, true⟩ ∧
    s.H 901002 = some (srcB cs (nextN cs σ1 i) g) ∧ (∀ j, j < 2000000 → j ≠ 901002 → s.H j = H j) ∧ Free 3000000 s.H) K
    ⟨0, ngenB (H 2001000), by omega, rfl, rfl, by simp [upd]; rfl, by simp [upd], by simp [upd], by simp [upd, bytesA, wordB], by simp [upd, nextN], fun j hj hn => by simp only [upd] <;> (repeat' split) <;> first | omega | rfl, fun j hj => by simp only [upd] <;> (repeat' split) <;> first | omega | exact hF j (by omega)⟩ ?_
  clear a1
  rintro mm s ⟨i, gb, hi, rfl, hnx, t0, t5, t6, hHb, hHs, hKp, hFr⟩
  simp only [go_sem, ↓reduceIte, Nat.reduceEqDiff, Nat.reduceAdd, Nat.reduceMul, Nat.reduceSub, Nat.reduceLeDiff, Nat.reduceLT, Nat.reduceBEq, Nat.reduceBNe, Int.reduceLT, Int.reduceLE, Int.reduceEq, Int.reduceNeg, Int.reduceToNat, Int.toNat_natCast, Int.natCast_nonneg, List.length_append, List.length_map, List.length_replicate, Bool.and_eq_true, decide_eq_true_eq, List.length_take, List.length_drop, Int.reduceSub, Int.reduceAdd, Int.reduceMul, Int.sub_zero, Int.add_zero, Int.zero_add, reduceCtorEq, decide_true, decide_false, Bool.false_eq_true, List.reduceReplicate, t0, t5, t6, hnx]
  have d1 := hnN i
  have v1 := nextV_in cs (nextN cs σ1 i)
  have hLi := hwL i
  refine condP_split (fun h => ?_) (fun h => ?_)
  · have b1 := next_aw cs hc g (nextN cs σ1 i) (by omega) s.H (hFr.mono (by omega)) hHs
    have eP : wordB cs σ1 (i + 1) = wordB cs σ1 i ++ [UInt8.ofNat (nextV cs (nextN cs σ1 i)).toNat] := rfl
    have eS : nextN cs σ1 (i + 1) = nextS cs (nextN cs σ1 i) := rfl
    have hw : IntKind.u8.wrap (nextV cs (nextN cs σ1 i)) = ((UInt8.ofNat (nextV cs (nextN cs σ1 i)).toNat).toNat : Int) := by rw [u8w, UInt8.toNat_ofNat']; omega
    have hlen : (bytesA (wordB cs σ1 i)).length = i := by rw [bytesA_len, hLi]
    have hap := bytesA_one (wordB cs σ1 i) (UInt8.ofNat (nextV cs (nextN cs σ1 i)).toNat)
    generalize nextV cs (nextN cs σ1 i) = x at *
    clear hnN hwL
    repeat' (first | simp only [go_sem, ↓reduceIte, Nat.reduceEqDiff, Nat.reduceAdd, Nat.reduceMul, Nat.reduceSub, Nat.reduceLeDiff, Nat.reduceLT, Nat.reduceBEq, Nat.reduceBNe, Int.reduceLT, Int.reduceLE, Int.reduceEq, Int.reduceNeg, Int.reduceToNat, Int.toNat_natCast, Int.natCast_nonneg, List.length_append, List.length_map, List.length_replicate, Bool.and_eq_true, decide_eq_true_eq, List.length_take, List.length_drop, Int.reduceSub, Int.reduceAdd, Int.reduceMul, Int.sub_zero, Int.add_zero, Int.zero_add, reduceCtorEq, decide_true, decide_false, Bool.false_eq_true, List.reduceReplicate, *] | simp (disch := omega) only [wrap_i64, wrap_u8, Int.tdiv_eq_ediv_of_nonneg, Int.tmod_eq_emod_of_nonneg, if_pos] | (refine callP_aw (b1) ?_) | refine callP_x ?_ | (refine ret_gen (by first | exact .inr rfl | exact .inl rfl) (rfl) ?_) | (refine guardP_split (fun _ => ?_) (fun _ => ?_)) | (refine condP_split (fun _ => ?_) (fun _ => ?_)) | (refine guardP_splitB (fun _ => ?_) (fun _ => ?_)) | (refine condP_splitB (fun _ => ?_) (fun _ => ?_)))
    refine ⟨K - (i + 1), by omega, i + 1, gb + 1, by omega, rfl, rfl, congrArg _ (by omega), by rw [eP], by rw [eS], fun j hj hn => ?_, ?_⟩
    · rw [if_neg (by omega), if_neg (by omega), if_neg hn]; exact hKp j hj hn
    · exact ((hFr.upd (by omega)).upd (by omega)).upd (by omega)
  · have ek : i = K := by omega
    subst ek
    have hlen : (bytesA (wordB cs σ1 i)).length = i := by rw [bytesA_len, hLi]
    have htk : (bytesA (wordB cs σ1 i)).take i = bytesA (wordB cs σ1 i) := List.take_of_length_le (by omega)
    repeat' (first | simp only [go_sem, ↓reduceIte, Nat.reduceEqDiff, Nat.reduceAdd, Nat.reduceMul, Nat.reduceSub, Nat.reduceLeDiff, Nat.reduceLT, Nat.reduceBEq, Nat.reduceBNe, Int.reduceLT, Int.reduceLE, Int.reduceEq, Int.reduceNeg, Int.reduceToNat, Int.toNat_natCast, Int.natCast_nonneg, List.length_append, List.length_map, List.length_replicate, Bool.and_eq_true, decide_eq_true_eq, List.length_take, List.length_drop, Int.reduceSub, Int.reduceAdd, Int.reduceMul, Int.sub_zero, Int.add_zero, Int.zero_add, reduceCtorEq, decide_true, decide_false, Bool.false_eq_true, List.reduceReplicate, *] | simp (disch := omega) only [wrap_i64, wrap_u8, Int.tdiv_eq_ediv_of_nonneg, Int.tmod_eq_emod_of_nonneg, if_pos] | refine callP_x ?_ | (refine ret_gen (by first | exact .inr rfl | exact .inl rfl) (rfl) ?_) | (refine guardP_split (fun _ => ?_) (fun _ => ?_)) | (refine condP_split (fun _ => ?_) (fun _ => ?_)) | (refine guardP_splitB (fun _ => ?_) (fun _ => ?_)) | (refine condP_splitB (fun _ => ?_) (fun _ => ?_)))
    rw [← hQ]
    refine ⟨_, retW_1 (.inr rfl) (by simp only [go_sem, ↓reduceIte, Nat.reduceEqDiff, Nat.reduceAdd, Nat.reduceMul, Nat.reduceSub, Nat.reduceLeDiff, Nat.reduceLT, Nat.reduceBEq, Nat.reduceBNe, Int.reduceLT, Int.reduceLE, Int.reduceEq, Int.reduceNeg, Int.reduceToNat, Int.toNat_natCast, Int.natCast_nonneg, List.length_append, List.length_map, List.length_replicate, Bool.and_eq_true, decide_eq_true_eq, List.length_take, List.length_drop, Int.reduceSub, Int.reduceAdd, Int.reduceMul, Int.sub_zero, Int.add_zero, Int.zero_add, reduceCtorEq, decide_true, decide_false, Bool.false_eq_true, List.reduceReplicate]) rfl, fun id => ?_, fun id hne => ?_⟩
    · by_cases e : id = 901002
      · right; subst e; simp [upd, hHs]
      · by_cases hlt : id < 2000000
        · right; simp [upd, e, hKp id hlt e]
        · left; simp only [upd, e, if_false]; exact hF id (by omega)
    · by_cases e : id = 901002
      · subst e; simp [upd, hHs]
      · by_cases hlt : id < 2000000
        · simp [upd, e, hKp id hlt e]
        · exact absurd (hF id (by omega)) hne
def repB (t : List UInt8) : Nat → List UInt8
  | 0 => []
  | k + 1 => repB t k ++ t
theorem repB_len (t : List UInt8) (k : Nat) : (repB t k).length = k * t.length := by
  induction k with
  | zero => simp [repB]
  | succ k ih => simp only [repB, List.length_append, ih, Nat.succ_mul]
def tails : List (List UInt8) := [[97], [0], [97, 98]]
theorem drawPeriod_ac (cs : List UInt8) (hc : cs.length ≤ 1048576) : ∃ l, l.length ≤ 100 ∧ AC Tryd.prog 15 [.lst (bytesA cs)] (.str l) := by
  have hf := from_aw cs hp0 rfl
  have w1 := word_aw cs hc 0 (0, 0) (by simp) 6 (by omega) (upd hp0 901002 (some (srcB cs (0, 0) 0))) (free0.upd (by omega)) (clean_src clean0 _ _ _) (upd_same _ _ _)
  simp only [upd_twice] at w1
  have pk := pickV_in cs (0, 0) (n := 6) (by omega)
  have sk := pickS_in cs (σ := (0, 0)) (n := 6) (by simp)
  have sN := nextN_in cs (σ := pickS cs (0, 0) 6) sk.1 (pickV cs (0, 0) 6).toNat
  have hT := wordB_len cs (pickS cs (0, 0) 6) (pickV cs (0, 0) 6).toNat
  generalize wordB cs (pickS cs (0, 0) 6) (pickV cs (0, 0) 6).toNat = T at *
  simp only at sk
  generalize nextN cs (pickS cs (0, 0) 6) (pickV cs (0, 0) 6).toNat = σ1 at *
  have hT5 : T.length ≤ 5 := by omega
  have hσ1 : 0 ≤ σ1.1 ∧ σ1.1 ≤ 10 := by omega
  clear hT sN sk pk
  have w2 := pick_aw cs hc 0 σ1 (by omega) 6 (by omega) (upd hp0 901002 (some (srcB cs σ1 0))) (free0.upd (by omega)) (upd_same _ _ _)
  simp only [upd_twice] at w2
  have p2 := pickV_in cs σ1 (n := 6) (by omega)
  have s2 := pickS_in cs hσ1.1 (n := 6)
  generalize pickS cs σ1 6 = σ2 at *
  obtain ⟨K, hK⟩ : ∃ K : Nat, pickV cs σ1 6 = (K : Int) := ⟨(pickV cs σ1 6).toNat, by omega⟩
  rw [hK] at p2 w2
  clear hK
  have a3 : ∀ (H' : Heap), Free 2000000 H' → H' 901002 = some (srcB cs σ2 0) → AW Tryd.prog 35 [.ptr 901002 0 0 0, .int .i64 4] H' (.bool (decide (pickV cs σ2 4 = 0))) (upd H' 901002 (some (srcB cs (pickS cs σ2 4) 0))) :=
    fun H' f1 f2 => one_aw cs hc 0 σ2 (by omega) 4 (by omega) H' f1 f2
  have s3 := pickS_in cs (σ := σ2) (n := 4) (by omega)
  generalize pickS cs σ2 4 = σ3 at *
  generalize pickV cs σ2 4 = v3 at *
  have a4 : ∀ (H' : Heap) (g2 : Nat), Free 2000000 H' → H' 901002 = some (srcB cs σ3 0) → H' 9002 = some ⟨1, [.str [97], .str [0], .str [97, 98]], g2, true⟩ →
      AW Tryd.prog 36 [.ptr 901002 0 0 0, .ref 9002 g2 0 3] H' (.str (tails.getD (pickV cs σ3 3).toNat [])) (upd H' 901002 (some (srcB cs (pickS cs σ3 3) 0))) :=
    fun H' g2 f1 f2 f3 => text_aw cs hc 0 σ3 (by omega) tails (by decide) 9002 g2 H' f1 f2 (by decide) f3
  have p4 := pickV_in cs σ3 (n := 3) (by omega)
  have tok : ∀ n : Nat, n < 3 → (tails.getD n []).length ≤ 2 := by decide
  have hE := tok (pickV cs σ3 3).toNat (by omega)
  generalize tails.getD (pickV cs σ3 3).toNat [] = E at *
  clear tok p4
  have hRL := repB_len T
  have hmul : ∀ k : Nat, k ≤ K → k * T.length ≤ 25 := fun k hk => Nat.le_trans (Nat.mul_le_mul (show k ≤ 5 by omega) hT5) (by omega)
  refine ⟨if v3 = 0 then repB T K ++ E else repB T K, ?_, ?_⟩
  · have := hRL K
    have := hmul K (Nat.le_refl _)
    split
    · rw [List.length_append]; omega
    · omega
  refine AC.of_run mo Tryd.func15 Tryd.call15 ⟨rfl, Tryd.ntmps15, Tryd.results15, by kernel_rfl⟩ rfl ?_
  repeat' (first | simp only [go_sem, ↓reduceIte, Nat.reduceEqDiff, Nat.reduceAdd, Nat.reduceMul, Nat.reduceSub, Nat.reduceLeDiff, Nat.reduceLT, Nat.reduceBEq, Nat.reduceBNe, Int.reduceLT, Int.reduceLE, Int.reduceEq, Int.reduceNeg, Int.reduceToNat, Int.toNat_natCast, Int.natCast_nonneg, List.length_append, List.length_map, List.length_replicate, Bool.and_eq_true, decide_eq_true_eq, List.length_take, List.length_drop, Int.reduceSub, Int.reduceAdd, Int.reduceMul, Int.sub_zero, Int.add_zero, Int.zero_add, reduceCtorEq, decide_true, decide_false, Bool.false_eq_true, List.reduceReplicate, *] | simp (disch := omega) only [wrap_i64, wrap_u8, Int.tdiv_eq_ediv_of_nonneg, Int.tmod_eq_emod_of_nonneg, if_pos] | (refine callP_aw (hf) ?_) | (refine callP_aw (w1) ?_) | (refine callP_aw (w2) ?_) | refine callP_x ?_ | (refine ret_gen (by first | exact .inr rfl | exact .inl rfl) (rfl) ?_) | (refine guardP_split (fun _ => ?_) (fun _ => ?_)) | (refine condP_split (fun _ => ?_) (fun _ => ?_)) | (refine guardP_splitB (fun _ => ?_) (fun _ => ?_)) | (refine condP_splitB (fun _ => ?_) (fun _ => ?_)))
  refine sx_loop (fun mm s => ∃ i, i ≤ K ∧ mm = K - i ∧ s.nx = 0 ∧ s.τ 3 = .ptr 901002 0 0 0 ∧ s.τ 4 = .str T ∧ s.τ 5 = .str (repB T i) ∧ s.τ 6 = .int .i64 ((K - i : Nat) : Int) ∧ s.H 901002 = some (srcB cs σ2 0) ∧ Free 2000000 s.H) K
    ⟨0, by omega, rfl, rfl, by simp [upd], by simp [upd], by simp [upd, repB], by simp [upd], by simp [upd], free0.upd (by omega)⟩ ?_
  clear hf w1 w2
  rintro mm s ⟨i, hi, rfl, hnx, t3, t4, t5, t6, hHs, hFr⟩
  simp only [go_sem, ↓reduceIte, Nat.reduceEqDiff, Nat.reduceAdd, Nat.reduceMul, Nat.reduceSub, Nat.reduceLeDiff, Nat.reduceLT, Nat.reduceBEq, Nat.reduceBNe, Int.reduceLT, Int.reduceLE, Int.reduceEq, Int.reduceNeg, Int.reduceToNat, Int.toNat_natCast, Int.natCast_nonneg, List.length_append, List.length_map, List.length_replicate, Bool.and_eq_true, decide_eq_true_eq, List.length_take, List.length_drop, Int.reduceSub, Int.reduceAdd, Int.reduceMul, Int.sub_zero, Int.add_zero, Int.zero_add, reduceCtorEq, decide_true, decide_false, Bool.false_eq_true, List.reduceReplicate, t3, t4, t5, t6, hnx]
  have hLi := hRL i
  have hmi := hmul i hi
  refine condP_split (fun h => ?_) (fun h => ?_)
  · have eP : repB T (i + 1) = repB T i ++ T := rfl
    clear hRL hmul
    repeat' (first | simp only [go_sem, ↓reduceIte, Nat.reduceEqDiff, Nat.reduceAdd, Nat.reduceMul, Nat.reduceSub, Nat.reduceLeDiff, Nat.reduceLT, Nat.reduceBEq, Nat.reduceBNe, Int.reduceLT, Int.reduceLE, Int.reduceEq, Int.reduceNeg, Int.reduceToNat, Int.toNat_natCast, Int.natCast_nonneg, List.length_append, List.length_map, List.length_replicate, Bool.and_eq_true, decide_eq_true_eq, List.length_take, List.length_drop, Int.reduceSub, Int.reduceAdd, Int.reduceMul, Int.sub_zero, Int.add_zero, Int.zero_add, reduceCtorEq, decide_true, decide_false, Bool.false_eq_true, List.reduceReplicate, *] | simp (disch := omega) only [wrap_i64, wrap_u8, Int.tdiv_eq_ediv_of_nonneg, Int.tmod_eq_emod_of_nonneg, if_pos] | refine callP_x ?_ | (refine ret_gen (by first | exact .inr rfl | exact .inl rfl) (rfl) ?_) | (refine guardP_split (fun _ => ?_) (fun _ => ?_)) | (refine condP_split (fun _ => ?_) (fun _ => ?_)) | (refine guardP_splitB (fun _ => ?_) (fun _ => ?_)) | (refine condP_splitB (fun _ => ?_) (fun _ => ?_)))
    exact ⟨K - (i + 1), by omega, i + 1, by omega, rfl, rfl, congrArg _ (by omega)⟩
  · have ek : i = K := by omega
    subst ek
    clear hRL hmul
    by_cases h3 : v3 = 0
    · repeat' (first | simp only [go_sem, ↓reduceIte, Nat.reduceEqDiff, Nat.reduceAdd, Nat.reduceMul, Nat.reduceSub, Nat.reduceLeDiff, Nat.reduceLT, Nat.reduceBEq, Nat.reduceBNe, Int.reduceLT, Int.reduceLE, Int.reduceEq, Int.reduceNeg, Int.reduceToNat, Int.toNat_natCast, Int.natCast_nonneg, List.length_append, List.length_map, List.length_replicate, Bool.and_eq_true, decide_eq_true_eq, List.length_take, List.length_drop, Int.reduceSub, Int.reduceAdd, Int.reduceMul, Int.sub_zero, Int.add_zero, Int.zero_add, reduceCtorEq, decide_true, decide_false, Bool.false_eq_true, List.reduceReplicate, *] | simp (disch := omega) only [wrap_i64, wrap_u8, Int.tdiv_eq_ediv_of_nonneg, Int.tmod_eq_emod_of_nonneg, if_pos] | (refine callP_aw (a3 _ hFr hHs) ?_) | (refine callP_aw (a4 _ _ (by intro j hj <;> simp only [upd] <;> (repeat' split) <;> first | omega | exact hFr j (by omega)) (by simp [upd]) (by simp [upd])) ?_) | refine callP_x ?_ | (refine ret_gen (by first | exact .inr rfl | exact .inl rfl) (rfl) ?_) | (refine guardP_split (fun _ => ?_) (fun _ => ?_)) | (refine condP_split (fun _ => ?_) (fun _ => ?_)) | (refine guardP_splitB (fun _ => ?_) (fun _ => ?_)) | (refine condP_splitB (fun _ => ?_) (fun _ => ?_)))
      all_goals trace_state
    · repeat' (first | simp only [go_sem, ↓reduceIte, Nat.reduceEqDiff, Nat.reduceAdd, Nat.reduceMul, Nat.reduceSub, Nat.reduceLeDiff, Nat.reduceLT, Nat.reduceBEq, Nat.reduceBNe, Int.reduceLT, Int.reduceLE, Int.reduceEq, Int.reduceNeg, Int.reduceToNat, Int.toNat_natCast, Int.natCast_nonneg, List.length_append, List.length_map, List.length_replicate, Bool.and_eq_true, decide_eq_true_eq, List.length_take, List.length_drop, Int.reduceSub, Int.reduceAdd, Int.reduceMul, Int.sub_zero, Int.add_zero, Int.zero_add, reduceCtorEq, decide_true, decide_false, Bool.false_eq_true, List.reduceReplicate, *] | simp (disch := omega) only [wrap_i64, wrap_u8, Int.tdiv_eq_ediv_of_nonneg, Int.tmod_eq_emod_of_nonneg, if_pos] | (refine callP_aw (a3 _ hFr hHs) ?_) | refine callP_x ?_ | (refine ret_gen (by first | exact .inr rfl | exact .inl rfl) (rfl) ?_) | (refine guardP_split (fun _ => ?_) (fun _ => ?_)) | (refine condP_split (fun _ => ?_) (fun _ => ?_)) | (refine guardP_splitB (fun _ => ?_) (fun _ => ?_)) | (refine condP_splitB (fun _ => ?_) (fun _ => ?_)))
      all_goals trace_state
end Go.Ab
