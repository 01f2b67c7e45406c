/- What the reference draws: cartridges. Conditions: none. -/
import Derived.Test.YtjoomndcdpkplaaDoorCSub
import Derived.Test.YtjoomndcdpkplaaDoorCCart
namespace Go.Ab
open Go.RowKit Go.Proofs
set_option maxRecDepth 10000
set_option maxHeartbeats 4000000
set_option linter.unusedSimpArgs false
set_option linter.unusedVariables false
def titles : List (List UInt8) := [[71, 65, 77, 69], [65], [76, 79, 78, 71, 78, 65, 77, 69], [88, 95, 49]]
theorem titles_ok {t : List UInt8} (h : t ∈ titles) : nameOk t := by
  simp only [titles, List.mem_cons, List.not_mem_nil, or_false] at h
  rcases h with rfl | rfl | rfl | rfl <;> (refine ⟨by simp, by simp, ⟨_, rfl, by decide⟩, ?_⟩ <;> simp only [List.mem_cons, List.not_mem_nil, or_false, forall_eq_or_imp, forall_eq] <;> (first | decide | (refine ⟨?_, ?_⟩ <;> decide)))
def rowN (x st : Int) (i : Nat) : List UInt8 := (List.range i).map fun (j : Nat) => UInt8.ofNat ((x + st * j) % 256).toNat
theorem rowN_len (x st : Int) (i : Nat) : (rowN x st i).length = i := by simp [rowN]
theorem rowN_succ (x st : Int) (i : Nat) : rowN x st (i + 1) = rowN x st i ++ [UInt8.ofNat ((x + st * i) % 256).toNat] := by simp [rowN, List.range_succ]
def drawS (cs : List UInt8) (σ : Int × Int) : Nat → Int × Int
  | 0 => σ
  | k + 1 => pickS cs (nextS cs (drawS cs σ k)) 4
def drawP (cs : List UInt8) (σ : Int × Int) : Nat → List UInt8
  | 0 => []
  | k + 1 => drawP cs σ k ++ rowN (nextV cs (drawS cs σ k)) (pickV cs (nextS cs (drawS cs σ k)) 4) 64
theorem drawS_in (cs : List UInt8) {σ : Int × Int} (h : 0 ≤ σ.1) (k : Nat) : 0 ≤ (drawS cs σ k).1 ∧ (drawS cs σ k).1 ≤ σ.1 + 3 * k := by
  induction k with
  | zero => simp only [drawS]; omega
  | succ k ih =>
    have h1 := nextS_in cs ih.1
    have h2 := pickS_in cs h1.1 (n := 4)
    simp only [drawS]; omega
theorem drawP_len (cs : List UInt8) (σ : Int × Int) (k : Nat) : (drawP cs σ k).length = 64 * k := by
  induction k with
  | zero => rfl
  | succ k ih => simp only [drawP, List.length_append, ih, rowN_len]; omega
theorem l28Draw_aw (cs : List UInt8) (hc : cs.length ≤ 1048576) (g : Nat) (σ : Int × Int) (h0 : 0 ≤ σ.1 ∧ σ.1 ≤ 800000) (H : Heap) (hF : Free 1000000 H) (hcl : Clean H) (hH : H 901002 = some (srcB cs σ g)) :
    ∃ t m p τ, cartOk t m p ∧ (0 ≤ τ.1 ∧ τ.1 ≤ σ.1 + 100) ∧ AW Tryd.prog 19 [.ptr 901002 g 0 0] H (.agg [.str t, .int .i64 m, .str p]) (upd H 901002 (some (srcB cs τ g))) := by
  have p1 := pickV_in cs σ (n := 4) (by omega)
  have q1 := pickS_in cs h0.1 (n := 4)
  generalize hs1 : pickS cs σ 4 = σ1 at *
  have p2 := pickV_in cs σ1 (n := 3) (by omega)
  have q2 := pickS_in cs q1.1 (n := 3)
  generalize hs2 : pickS cs σ1 3 = σ2 at *
  have p3 := pickV_in cs σ2 (n := 5) (by omega)
  have q3 := pickS_in cs q2.1 (n := 5)
  generalize hs3 : pickS cs σ2 5 = σ3 at *
  have q4 := pickS_in cs q3.1 (n := 20)
  generalize hs4 : pickS cs σ3 20 = σ4 at *
  have p5 := pickV_in cs σ4 (n := 2) (by omega)
  have q5 := pickS_in cs q4.1 (n := 2)
  generalize hs5 : pickS cs σ4 2 = σ5 at *
  have tok : ∀ n : Nat, n < 4 → titles.getD n [] ∈ titles := by decide
  have hname := titles_ok (tok (pickV cs σ 4).toNat (by omega))
  clear tok
  have a1 : ∀ (H' : Heap) (g2 : Nat), Free 2000000 H' → H' 901002 = some (srcB cs σ g) → H' 1001001 = some ⟨1, [.str [71, 65, 77, 69], .str [65], .str [76, 79, 78, 71, 78, 65, 77, 69], .str [88, 95, 49]], g2, true⟩ →
      AW Tryd.prog 36 [.ptr 901002 g 0 0, .ref 1001001 g2 0 4] H' (.str (titles.getD (pickV cs σ 4).toNat [])) (upd H' 901002 (some (srcB cs σ1 g))) := by
    intro H' g2 f1 f2 f3
    rw [← hs1]
    exact text_aw cs hc g σ (by omega) titles (by decide) 1001001 g2 H' f1 f2 (by decide) f3
  have a2 : ∀ (H' : Heap), Free 2000000 H' → H' 901002 = some (srcB cs σ1 g) → AW Tryd.prog 34 [.ptr 901002 g 0 0, .int .i64 3] H' (.int .i64 (pickV cs σ1 3)) (upd H' 901002 (some (srcB cs σ2 g))) := by
    intro H' f1 f2
    rw [← hs2]
    exact pick_aw cs hc g σ1 (by omega) 3 (by omega) H' (f1.mono (by omega)) f2
  have a3 : ∀ (H' : Heap), Free 2000000 H' → H' 901002 = some (srcB cs σ2 g) → AW Tryd.prog 34 [.ptr 901002 g 0 0, .int .i64 5] H' (.int .i64 (pickV cs σ2 5)) (upd H' 901002 (some (srcB cs σ3 g))) := by
    intro H' f1 f2
    rw [← hs3]
    exact pick_aw cs hc g σ2 (by omega) 5 (by omega) H' (f1.mono (by omega)) f2
  have a4 : ∀ (H' : Heap), Free 2000000 H' → H' 901002 = some (srcB cs σ3 g) → AW Tryd.prog 35 [.ptr 901002 g 0 0, .int .i64 20] H' (.bool (decide (pickV cs σ3 20 = 0))) (upd H' 901002 (some (srcB cs σ4 g))) := by
    intro H' f1 f2
    rw [← hs4]
    exact one_aw cs hc g σ3 (by omega) 20 (by omega) H' f1 f2
  have a5 : ∀ (H' : Heap), Free 2000000 H' → H' 901002 = some (srcB cs σ4 g) → AW Tryd.prog 34 [.ptr 901002 g 0 0, .int .i64 2] H' (.int .i64 (pickV cs σ4 2)) (upd H' 901002 (some (srcB cs σ5 g))) := by
    intro H' f1 f2
    rw [← hs5]
    exact pick_aw cs hc g σ4 (by omega) 2 (by omega) H' (f1.mono (by omega)) f2
  generalize ht : titles.getD (pickV cs σ 4).toNat [] = t at *
  generalize hv1 : pickV cs σ1 3 = v1 at *
  generalize hv2 : pickV cs σ2 5 = v2 at *
  generalize hv3 : pickV cs σ3 20 = v3 at *
  generalize hv4 : pickV cs σ4 2 = v4 at *
  clear hs1 hs2 hs3 hs4 hs5 ht hv1 hv2 hv3 hv4 p1
  have hv1 : v1 = 0 ∨ v1 = 1 ∨ v1 = 2 := by omega
  have key : ∀ (M : Int) (N : Nat) (σf : Int × Int), 0 ≤ σf.1 ∧ σf.1 ≤ 800100 → 1 ≤ N ∧ N ≤ 16 → (M = 1 ∧ v1 = 0 ∧ σf = σ5 ∧ (N : Int) = 1 + v4 ∨ (M = 2 ∧ v1 = 1 ∨ M = 3 ∧ v1 = 2) ∧ σf = σ4 ∧ (v3 = 0 ∧ (N : Int) = 16 ∨ ¬ v3 = 0 ∧ (N : Int) = 1 + v2)) →
      AW Tryd.prog 19 [.ptr 901002 g 0 0] H (.agg [.str t, .int .i64 M, .str (drawP cs σf N)]) (upd H 901002 (some (srcB cs (drawS cs σf N) g))) := by
    clear hv1 p2
    intro M N σf hσ hN hc'
    refine AW.of_runS 1000000 mo Tryd.func19 Tryd.call19 ⟨rfl, Tryd.ntmps19, Tryd.results19, by kernel_rfl⟩ rfl rfl ?_ ?_
    · intro id B hB x hx
      simp only [upd] at hB
      split at hB
      · simp only [Option.some.injEq] at hB
        subst hB
        simp only [srcB, flat, AV.cells, List.flatMap_cons, List.flatMap_nil, List.append_nil, List.mem_cons, List.not_mem_nil, or_false] at hx
        rcases hx with rfl | rfl | rfl <;> rfl
      · exact hcl id B hB x hx
    have hdS := fun k => drawS_in cs (σ := σf) hσ.1 k
    have hdL := drawP_len cs σf
    generalize hQ : (fun e s => ∃ H', retW Tryd.prog [ResultVar.cell 2 25] (.agg [.str t, .int .i64 M, .str (drawP cs σf N)]) H' e s ∧ Sub H H' (upd H 901002 (some (srcB cs (drawS cs σf N) g)))) = Q
    rcases hc' with ⟨hM, rfl, rfl, hN'⟩ | ⟨⟨hM, rfl⟩ | ⟨hM, rfl⟩, rfl, ⟨h3, hN'⟩ | ⟨h3, hN'⟩⟩
    all_goals repeat' (first | simp only [go_sem, ↓reduceIte, Nat.reduceEqDiff, Nat.reduceAdd, Nat.reduceMul, Nat.reduceSub, Nat.reduceLeDiff, Nat.reduceLT, Nat.reduceBEq, Nat.reduceBNe, Int.reduceLT, Int.reduceLE, Int.reduceEq, Int.reduceNeg, Int.reduceToNat, Int.toNat_natCast, Int.natCast_nonneg, List.length_append, List.length_map, List.length_replicate, Bool.and_eq_true, decide_eq_true_eq, List.length_take, List.length_drop, Int.reduceSub, Int.reduceAdd, Int.reduceMul, Int.sub_zero, Int.add_zero, Int.zero_add, reduceCtorEq, decide_true, decide_false, Bool.false_eq_true, List.reduceReplicate, *] | simp (disch := omega) only [wrap_i64, wrap_u8, Int.tdiv_eq_ediv_of_nonneg, Int.tmod_eq_emod_of_nonneg, if_pos] | (refine callP_aw (a1 _ _ (by intro j hj <;> simp only [upd] <;> (repeat' split) <;> first | omega | exact hF j (by omega)) (by simp [upd, hH]) (by simp [upd, hH])) ?_) | (refine callP_aw (a2 _ (by intro j hj <;> simp only [upd] <;> (repeat' split) <;> first | omega | exact hF j (by omega)) (by simp [upd, hH])) ?_) | (refine callP_aw (a3 _ (by intro j hj <;> simp only [upd] <;> (repeat' split) <;> first | omega | exact hF j (by omega)) (by simp [upd, hH])) ?_) | (refine callP_aw (a4 _ (by intro j hj <;> simp only [upd] <;> (repeat' split) <;> first | omega | exact hF j (by omega)) (by simp [upd, hH])) ?_) | (refine callP_aw (a5 _ (by intro j hj <;> simp only [upd] <;> (repeat' split) <;> first | omega | exact hF j (by omega)) (by simp [upd, hH])) ?_) | refine callP_x ?_ | (refine ret_gen (by first | exact .inr rfl | exact .inl rfl) (rfl) ?_) | (refine guardP_split (fun _ => ?_) (fun _ => ?_)) | (refine condP_split (fun _ => ?_) (fun _ => ?_)) | (refine guardP_splitB (fun _ => ?_) (fun _ => ?_)) | (refine condP_splitB (fun _ => ?_) (fun _ => ?_)))
    all_goals clear a1 a2 a3 a4 a5
    all_goals
      refine sx_loop (fun mm s => ∃ k gb gc gr, k ≤ N ∧ mm = N - k ∧ s.nx = 1000000 ∧ s.τ 0 = .ptr 901002 g 0 0 ∧ s.τ 2 = .ptr 1000000 gr 0 0 ∧ s.τ 3 = .ptr 1001007 gc 0 0 ∧ s.τ 4 = .int .i64 (N : Int) ∧ s.τ 6 = .int .i64 (k : Int) ∧
        s.τ 5 = .ref 1007000 gb 0 (64 * k) ∧ s.H 1007000 = some ⟨1, bytesA (drawP cs σf k), gb, true⟩ ∧ s.H 1001007 = some ⟨3, [.agg [.str t, .int .i64 M, .str []]], gc, true⟩ ∧
        s.H 1000000 = some ⟨3, [.agg [.str [], .int .i64 0, .str []]], gr, true⟩ ∧ s.H 901002 = some (srcB cs (drawS cs σf k) g) ∧ (∀ j, j < 1000000 → j ≠ 901002 → s.H j = H j) ∧ Free 2000000 s.H) N ?_ ?_
      · refine ⟨0, ngenB (H 1007000), ngenB (H 1001007), ngenB (H 1000000), by omega, rfl, rfl, by simp [upd]; rfl, by simp [upd], by simp [upd], by simp [upd]; omega, by simp [upd], by simp [upd], by simp [upd, bytesA, drawP], by simp [upd, hM], by simp [upd], by simp [upd, drawS], fun j hj hn => ?_, fun j hj => ?_⟩
        · simp only [upd]
          repeat' split
          all_goals first | omega | rfl
        · simp only [upd]
          repeat' split
          all_goals first | omega | exact hF j (by omega)
      · clear hN' hM
        rintro mm s ⟨k, gb, gc, gr, hk, rfl, hnx, t0, t2, t3, t4, t6, t5, hHb, hHc, hHr, hHs, hKp, hFr⟩
        simp only [go_sem, ↓reduceIte, Nat.reduceEqDiff, Nat.reduceAdd, Nat.reduceMul, Nat.reduceSub, Nat.reduceLeDiff, Nat.reduceLT, Nat.reduceBEq, Nat.reduceBNe, Int.reduceLT, Int.reduceLE, Int.reduceEq, Int.reduceNeg, Int.reduceToNat, Int.toNat_natCast, Int.natCast_nonneg, List.length_append, List.length_map, List.length_replicate, Bool.and_eq_true, decide_eq_true_eq, List.length_take, List.length_drop, Int.reduceSub, Int.reduceAdd, Int.reduceMul, Int.sub_zero, Int.add_zero, Int.zero_add, reduceCtorEq, decide_true, decide_false, Bool.false_eq_true, List.reduceReplicate, t0, t2, t3, t4, t6, t5, hnx]
        have d1 := hdS k
        have d2 := nextS_in cs d1.1
        have v1' := nextV_in cs (drawS cs σf k)
        have v2' := pickV_in cs (nextS cs (drawS cs σf k)) (n := 4) (by omega)
        have hLk := hdL k
        have b1 := next_aw cs hc g (drawS cs σf k) (by omega) s.H (hFr.mono (by omega)) hHs
        have b2 := pick_aw cs hc g (nextS cs (drawS cs σf k)) (by omega) 4 (by omega) (upd s.H 901002 (some (srcB cs (nextS cs (drawS cs σf k)) g))) ((hFr.mono (by omega)).upd (by omega)) (upd_same _ _ _)
        simp only [upd_twice] at b2
        refine condP_split (fun h => ?_) (fun h => ?_)
        · repeat' (first | simp only [go_sem, ↓reduceIte, Nat.reduceEqDiff, Nat.reduceAdd, Nat.reduceMul, Nat.reduceSub, Nat.reduceLeDiff, Nat.reduceLT, Nat.reduceBEq, Nat.reduceBNe, Int.reduceLT, Int.reduceLE, Int.reduceEq, Int.reduceNeg, Int.reduceToNat, Int.toNat_natCast, Int.natCast_nonneg, List.length_append, List.length_map, List.length_replicate, Bool.and_eq_true, decide_eq_true_eq, List.length_take, List.length_drop, Int.reduceSub, Int.reduceAdd, Int.reduceMul, Int.sub_zero, Int.add_zero, Int.zero_add, reduceCtorEq, decide_true, decide_false, Bool.false_eq_true, List.reduceReplicate, *] | simp (disch := omega) only [wrap_i64, wrap_u8, Int.tdiv_eq_ediv_of_nonneg, Int.tmod_eq_emod_of_nonneg, if_pos] | (refine callP_aw (b1) ?_) | (refine callP_aw (b2) ?_) | refine callP_x ?_ | (refine ret_gen (by first | exact .inr rfl | exact .inl rfl) (rfl) ?_) | (refine guardP_split (fun _ => ?_) (fun _ => ?_)) | (refine condP_split (fun _ => ?_) (fun _ => ?_)) | (refine guardP_splitB (fun _ => ?_) (fun _ => ?_)) | (refine condP_splitB (fun _ => ?_) (fun _ => ?_)))
          have eS : pickS cs (nextS cs (drawS cs σf k)) 4 = drawS cs σf (k + 1) := rfl
          have eP : drawP cs σf (k + 1) = drawP cs σf k ++ rowN (nextV cs (drawS cs σf k)) (pickV cs (nextS cs (drawS cs σf k)) 4) 64 := rfl
          rw [eS]
          generalize nextV cs (drawS cs σf k) = x at *
          generalize pickV cs (nextS cs (drawS cs σf k)) 4 = st at *
          have hkN : k < N := by omega
          clear b1 b2 h d2 eS hdL
          refine sx_loop (fun mm s' => ∃ i gb, i ≤ 64 ∧ mm = 64 - i ∧ s'.nx = 1000000 ∧ s'.τ 0 = .ptr 901002 g 0 0 ∧ s'.τ 2 = .ptr 1000000 gr 0 0 ∧ s'.τ 3 = .ptr 1001007 gc 0 0 ∧ s'.τ 4 = .int .i64 (N : Int) ∧ s'.τ 6 = .int .i64 (k : Int) ∧
            s'.τ 7 = .int .i64 x ∧ s'.τ 8 = .int .i64 st ∧ s'.τ 9 = .int .i64 (i : Int) ∧
            s'.τ 5 = .ref 1007000 gb 0 (64 * k + i) ∧ s'.H 1007000 = some ⟨1, bytesA (drawP cs σf k ++ rowN x st i), gb, true⟩ ∧ s'.H 1001007 = some ⟨3, [.agg [.str t, .int .i64 M, .str []]], gc, true⟩ ∧
            s'.H 1000000 = some ⟨3, [.agg [.str [], .int .i64 0, .str []]], gr, true⟩ ∧ s'.H 901002 = some (srcB cs (drawS cs σf (k + 1)) g) ∧ (∀ j, j < 1000000 → j ≠ 901002 → s'.H j = H j) ∧ Free 2000000 s'.H) 64 ?_ ?_
          · refine ⟨0, gb, by omega, rfl, rfl, by simp [upd, t0], by simp [upd, t2], by simp [upd, t3], by simp [upd, t4], by simp [upd, t6], by simp [upd], by simp [upd], by simp [upd], by simp [upd, t5], by simp [upd, hHb, rowN], by simp [upd, hHc], by simp [upd, hHr], by simp [upd], fun j hj hn => ?_, hFr.upd (by omega)⟩
            · simp only [upd, hn, if_false]; exact hKp j hj hn
          · clear t0 t2 t3 t4 t6 t5 hHb hHc hHr hHs hKp hFr hnx
            clear s
            rintro mm s ⟨i, gb, hi, rfl, hnx, t0, t2, t3, t4, t6, t7, t8, t9, t5, hHb, hHc, hHr, hHs, hKp, hFr⟩
            simp only [go_sem, ↓reduceIte, Nat.reduceEqDiff, Nat.reduceAdd, Nat.reduceMul, Nat.reduceSub, Nat.reduceLeDiff, Nat.reduceLT, Nat.reduceBEq, Nat.reduceBNe, Int.reduceLT, Int.reduceLE, Int.reduceEq, Int.reduceNeg, Int.reduceToNat, Int.toNat_natCast, Int.natCast_nonneg, List.length_append, List.length_map, List.length_replicate, Bool.and_eq_true, decide_eq_true_eq, List.length_take, List.length_drop, Int.reduceSub, Int.reduceAdd, Int.reduceMul, Int.sub_zero, Int.add_zero, Int.zero_add, reduceCtorEq, decide_true, decide_false, Bool.false_eq_true, List.reduceReplicate, t0, t2, t3, t4, t6, t7, t8, t9, t5, hnx]
            refine condP_split (fun h => ?_) (fun h => ?_)
            · have hmul : 0 ≤ st * (i : Int) ∧ st * (i : Int) ≤ 252 := by
                have := Int.mul_nonneg v2'.1 (show (0 : Int) ≤ (i : Int) by omega)
                have := Int.mul_le_mul_of_nonneg_right (show st ≤ 3 by omega) (show (0 : Int) ≤ (i : Int) by omega)
                omega
              have hw : IntKind.u8.wrap (x + st * (i : Int)) = ((UInt8.ofNat ((x + st * (i : Int)) % 256).toNat).toNat : Int) := by
                rw [u8w, UInt8.toNat_ofNat']; omega
              have hlen : (bytesA (drawP cs σf k ++ rowN x st i)).length = 64 * k + i := by rw [bytesA_len, List.length_append, hLk, rowN_len]
              have hap := bytesA_one (drawP cs σf k ++ rowN x st i) (UInt8.ofNat ((x + st * (i : Int)) % 256).toNat)
              repeat' (first | simp only [go_sem, ↓reduceIte, Nat.reduceEqDiff, Nat.reduceAdd, Nat.reduceMul, Nat.reduceSub, Nat.reduceLeDiff, Nat.reduceLT, Nat.reduceBEq, Nat.reduceBNe, Int.reduceLT, Int.reduceLE, Int.reduceEq, Int.reduceNeg, Int.reduceToNat, Int.toNat_natCast, Int.natCast_nonneg, List.length_append, List.length_map, List.length_replicate, Bool.and_eq_true, decide_eq_true_eq, List.length_take, List.length_drop, Int.reduceSub, Int.reduceAdd, Int.reduceMul, Int.sub_zero, Int.add_zero, Int.zero_add, reduceCtorEq, decide_true, decide_false, Bool.false_eq_true, List.reduceReplicate, *] | simp (disch := omega) only [wrap_i64, wrap_u8, Int.tdiv_eq_ediv_of_nonneg, Int.tmod_eq_emod_of_nonneg, if_pos] | refine callP_x ?_ | (refine ret_gen (by first | exact .inr rfl | exact .inl rfl) (rfl) ?_) | (refine guardP_split (fun _ => ?_) (fun _ => ?_)) | (refine condP_split (fun _ => ?_) (fun _ => ?_)) | (refine guardP_splitB (fun _ => ?_) (fun _ => ?_)) | (refine condP_splitB (fun _ => ?_) (fun _ => ?_)))
              refine ⟨64 - (i + 1), by omega, i + 1, gb + 1, by omega, rfl, by simp only [Int.natCast_add, Int.cast_ofNat_Int], by rw [Nat.add_assoc], by rw [rowN_succ, ← List.append_assoc], fun j hj hn => ?_, ?_⟩
              · rw [if_neg (by omega), if_neg (by omega)]; exact hKp j hj hn
              · exact (hFr.upd (by omega)).upd (by omega)
            · have e64 : i = 64 := by omega
              subst e64
              repeat' (first | simp only [go_sem, ↓reduceIte, Nat.reduceEqDiff, Nat.reduceAdd, Nat.reduceMul, Nat.reduceSub, Nat.reduceLeDiff, Nat.reduceLT, Nat.reduceBEq, Nat.reduceBNe, Int.reduceLT, Int.reduceLE, Int.reduceEq, Int.reduceNeg, Int.reduceToNat, Int.toNat_natCast, Int.natCast_nonneg, List.length_append, List.length_map, List.length_replicate, Bool.and_eq_true, decide_eq_true_eq, List.length_take, List.length_drop, Int.reduceSub, Int.reduceAdd, Int.reduceMul, Int.sub_zero, Int.add_zero, Int.zero_add, reduceCtorEq, decide_true, decide_false, Bool.false_eq_true, List.reduceReplicate, *] | simp (disch := omega) only [wrap_i64, wrap_u8, Int.tdiv_eq_ediv_of_nonneg, Int.tmod_eq_emod_of_nonneg, if_pos] | refine callP_x ?_ | (refine ret_gen (by first | exact .inr rfl | exact .inl rfl) (rfl) ?_) | (refine guardP_split (fun _ => ?_) (fun _ => ?_)) | (refine condP_split (fun _ => ?_) (fun _ => ?_)) | (refine guardP_splitB (fun _ => ?_) (fun _ => ?_)) | (refine condP_splitB (fun _ => ?_) (fun _ => ?_)))
              exact ⟨N - (k + 1), by omega, k + 1, gb, gc, gr, by omega, rfl, rfl, rfl, by simp only [Int.natCast_add, Int.cast_ofNat_Int], by rw [Nat.mul_add], by rw [eP], rfl, rfl, rfl, hKp⟩
        · have ek : k = N := by omega
          subst ek
          have hlen : (bytesA (drawP cs σf k)).length = 64 * k := by rw [bytesA_len, hLk]
          have htk : (bytesA (drawP cs σf k)).take (64 * k) = bytesA (drawP cs σf k) := by rw [← hLk]; exact bytesA_take _
          repeat' (first | simp only [go_sem, ↓reduceIte, Nat.reduceEqDiff, Nat.reduceAdd, Nat.reduceMul, Nat.reduceSub, Nat.reduceLeDiff, Nat.reduceLT, Nat.reduceBEq, Nat.reduceBNe, Int.reduceLT, Int.reduceLE, Int.reduceEq, Int.reduceNeg, Int.reduceToNat, Int.toNat_natCast, Int.natCast_nonneg, List.length_append, List.length_map, List.length_replicate, Bool.and_eq_true, decide_eq_true_eq, List.length_take, List.length_drop, Int.reduceSub, Int.reduceAdd, Int.reduceMul, Int.sub_zero, Int.add_zero, Int.zero_add, reduceCtorEq, decide_true, decide_false, Bool.false_eq_true, List.reduceReplicate, *] | simp (disch := omega) only [wrap_i64, wrap_u8, Int.tdiv_eq_ediv_of_nonneg, Int.tmod_eq_emod_of_nonneg, if_pos] | refine callP_x ?_ | (refine ret_gen (by first | exact .inr rfl | exact .inl rfl) (rfl) ?_) | (refine guardP_split (fun _ => ?_) (fun _ => ?_)) | (refine condP_split (fun _ => ?_) (fun _ => ?_)) | (refine guardP_splitB (fun _ => ?_) (fun _ => ?_)) | (refine condP_splitB (fun _ => ?_) (fun _ => ?_)))
          rw [← hQ]
          refine ⟨_, retW_mk (l := [.agg [.str t, .int .i64 M, .str (drawP cs σf k)]]) (.inr rfl) (by simp only [go_sem, ↓reduceIte, Nat.reduceEqDiff, Nat.reduceAdd, Nat.reduceMul, Nat.reduceSub, Nat.reduceLeDiff, Nat.reduceLT, Nat.reduceBEq, Nat.reduceBNe, Int.reduceLT, Int.reduceLE, Int.reduceEq, Int.reduceNeg, Int.reduceToNat, Int.toNat_natCast, Int.natCast_nonneg, List.length_append, List.length_map, List.length_replicate, Bool.and_eq_true, decide_eq_true_eq, List.length_take, List.length_drop, Int.reduceSub, Int.reduceAdd, Int.reduceMul, Int.sub_zero, Int.add_zero, Int.zero_add, reduceCtorEq, decide_true, decide_false, Bool.false_eq_true, List.reduceReplicate, t2]) rfl, ?_⟩
          refine ⟨fun id => ?_, fun id hne => ?_⟩
          · by_cases e : id = 901002
            · right; subst e; simp [upd, hHs]
            · by_cases hlt : id < 1000000
              · right; simp [upd, e, show ¬ id = 1001007 by omega, show ¬ id = 1000000 by omega, hKp id hlt e]
              · left; simp only [upd, e, if_false]; exact hF id (by omega)
          · by_cases e : id = 901002
            · subst e; simp [upd, hHs]
            · by_cases hlt : id < 1000000
              · simp [upd, e, show ¬ id = 1001007 by omega, show ¬ id = 1000000 by omega, hKp id hlt e]
              · exact absurd (hF id (by omega)) hne
  have fin' : ∀ (M : Int) (N : Nat) (σf : Int × Int), 0 ≤ σf.1 ∧ σf.1 ≤ σ.1 + 10 → 1 ≤ N ∧ N ≤ 16 → (M = 1 ∧ v1 = 0 ∧ σf = σ5 ∧ (N : Int) = 1 + v4 ∨ (M = 2 ∧ v1 = 1 ∨ M = 3 ∧ v1 = 2) ∧ σf = σ4 ∧ (v3 = 0 ∧ (N : Int) = 16 ∨ ¬ v3 = 0 ∧ (N : Int) = 1 + v2)) →
      ∃ t m p τ, cartOk t m p ∧ (0 ≤ τ.1 ∧ τ.1 ≤ σ.1 + 100) ∧ AW Tryd.prog 19 [.ptr 901002 g 0 0] H (.agg [.str t, .int .i64 m, .str p]) (upd H 901002 (some (srcB cs τ g))) := by
    intro M N σf h1 h2 h3
    have hl := drawP_len cs σf N
    have hd := drawS_in cs h1.1 N
    refine ⟨t, M, drawP cs σf N, drawS cs σf N, ⟨hname, by omega, by omega, by omega, fun hM => by omega⟩, by omega, key M N σf (by omega) h2 h3⟩
  clear key a1 a2 a3 a4 a5
  rcases hv1 with h | h | h
  · exact fin' 1 (1 + v4).toNat σ5 (by omega) (by omega) (.inl ⟨rfl, h, rfl, by omega⟩)
  · by_cases h3 : v3 = 0
    · exact fin' 2 16 σ4 (by omega) (by omega) (.inr ⟨.inl ⟨rfl, h⟩, rfl, .inl ⟨h3, rfl⟩⟩)
    · exact fin' 2 (1 + v2).toNat σ4 (by omega) (by omega) (.inr ⟨.inl ⟨rfl, h⟩, rfl, .inr ⟨h3, by omega⟩⟩)
  · by_cases h3 : v3 = 0
    · exact fin' 3 16 σ4 (by omega) (by omega) (.inr ⟨.inr ⟨rfl, h⟩, rfl, .inl ⟨h3, rfl⟩⟩)
    · exact fin' 3 (1 + v2).toNat σ4 (by omega) (by omega) (.inr ⟨.inr ⟨rfl, h⟩, rfl, .inr ⟨h3, by omega⟩⟩)
theorem a2Cart_ac (cs : List UInt8) (hc : cs.length ≤ 1048576) : ∃ t m p, cartOk t m p ∧ AC Tryd.prog 6 [.lst (bytesA cs)] (.agg [.str t, .int .i64 m, .str p]) := by
  obtain ⟨t, m, p, τ, hok, _, hd⟩ := l28Draw_aw cs hc 0 (0, 0) (by simp) (upd (upd hp0 0 (some ⟨3, [.agg [.str [], .int .i64 0, .str []]], 0, true⟩)) 901002 (some (srcB cs (0, 0) 0))) ((free0.upd (by omega)).upd (by omega))
    (fun id B hB x hx => by
      simp only [upd] at hB
      split at hB
      · simp only [Option.some.injEq] at hB
        subst hB
        simp only [srcB, flat, AV.cells, List.flatMap_cons, List.flatMap_nil, List.append_nil, List.mem_cons, List.not_mem_nil, or_false] at hx
        rcases hx with rfl | rfl | rfl <;> rfl
      · split at hB
        · simp only [Option.some.injEq] at hB
          subst hB
          simp only [flat, AV.cells, List.flatMap_cons, List.flatMap_nil, List.append_nil, List.mem_cons, List.not_mem_nil, or_false] at hx
          rcases hx with rfl | rfl | rfl <;> rfl
        · cases hB) (upd_same _ _ _)
  refine ⟨t, m, p, hok, ?_⟩
  have hf := from_aw cs (upd hp0 0 (some ⟨3, [.agg [.str [], .int .i64 0, .str []]], 0, true⟩)) rfl
  refine AC.of_run mo Tryd.func6 Tryd.call6 ⟨rfl, Tryd.ntmps6, Tryd.results6, by kernel_rfl⟩ rfl ?_
  repeat' (first | simp only [go_sem, ↓reduceIte, Nat.reduceEqDiff, Nat.reduceAdd, Nat.reduceMul, Nat.reduceSub, Nat.reduceLeDiff, Nat.reduceLT, Nat.reduceBEq, Nat.reduceBNe, Int.reduceLT, Int.reduceLE, Int.reduceEq, Int.reduceNeg, Int.reduceToNat, Int.toNat_natCast, Int.natCast_nonneg, List.length_append, List.length_map, List.length_replicate, Bool.and_eq_true, decide_eq_true_eq, List.length_take, List.length_drop, Int.reduceSub, Int.reduceAdd, Int.reduceMul, Int.sub_zero, Int.add_zero, Int.zero_add, reduceCtorEq, decide_true, decide_false, Bool.false_eq_true, List.reduceReplicate, *] | simp (disch := omega) only [wrap_i64, wrap_u8, Int.tdiv_eq_ediv_of_nonneg, Int.tmod_eq_emod_of_nonneg, if_pos] | (refine callP_aw (hf) ?_) | (refine callP_aw (hd) ?_) | refine callP_x ?_ | (refine ret_gen (by first | exact .inr rfl | exact .inl rfl) (rfl) ?_) | (refine guardP_split (fun _ => ?_) (fun _ => ?_)) | (refine condP_split (fun _ => ?_) (fun _ => ?_)) | (refine guardP_splitB (fun _ => ?_) (fun _ => ?_)) | (refine condP_splitB (fun _ => ?_) (fun _ => ?_)))
end Go.Ab
