/- The whole program is read by way of the mapper, whatever the registers are, and a cartridge is recovered from its file. Conditions: those of the row alone. -/
import Derived.Test.YtjoomndcdpkplaaDoorRows
import Derived.Test.YtjoomndcdpkplaaDoorCBanks
import Derived.Test.YtjoomndcdpkplaaDoorCards
import Derived.Test.YtjoomndcdpkplaaDoorTie
import Derived.LaidMore
import Derived.Lay
import Derived.SevenTiedAt
import Derived.Stop.Joined
import Derived.WalkKit
import Derived.ProofKit
import Derived.OpenShut
import Derived.ShutString
import Derived.ChangeOld
import Derived.Below
import Derived.SizedLaws
namespace Go.Proofs.YtjoomndcdpkplaaDoor.fnBanks
open Go.ChangeShapes Go.WideShapes Go.ChangeAt Go.RowKit Go.Ab
open Go.ChangeMaps (open_string shut_string)
set_option linter.unusedVariables false
set_option linter.unusedSimpArgs false
theorem own : ownKnob Tryd.prog.godebug = none := by kernel_rfl
theorem laid : laidOutB Tryd.prog = true := by kernel_rfl
set_option maxRecDepth 10000
set_option maxHeartbeats 4000000
theorem poke_in {m x v a : Int} (h1 : byteR a) (h2 : byteR v) : byteR (pokeA m x v a) := by unfold pokeA; split <;> assumption
theorem poke_in2 {m x v a : Int} (h1 : byteR a) (h2 : byteR v) : byteR (pokeB m x v a) := by unfold pokeB; split <;> assumption
theorem law0 (cs ms : List UInt8) (h1 : cs.length ≤ maxLen) (h2 : ms.length ≤ maxLen) : AC Tryd.prog 3 [.lst (bytesA cs), .lst (bytesA ms)] (.bool true) := by
  have hlong := a2Long_ac (bytesA cs) (bytesA ms) (by rw [bytesA_len]; exact h1) (by rw [bytesA_len]; exact h2)
  by_cases hl : 3000 < (bytesA cs).length ∨ 3000 < (bytesA ms).length
  · rw [decide_eq_true hl] at hlong
    refine AC.of_run mo Tryd.func3 Tryd.call3 ⟨rfl, Tryd.ntmps3, Tryd.results3, by kernel_rfl⟩ rfl ?_
    repeat' (first | simp only [go_sem, ↓reduceIte, Nat.reduceEqDiff, Nat.reduceAdd, Nat.reduceMul, Nat.reduceSub, Nat.reduceLeDiff, Nat.reduceLT, Nat.reduceBEq, Nat.reduceBNe, Int.reduceLT, Int.reduceLE, Int.reduceEq, Int.reduceNeg, Int.reduceToNat, Int.toNat_natCast, Int.natCast_nonneg, List.length_append, List.length_map, List.length_replicate, Bool.and_eq_true, decide_eq_true_eq, List.length_take, List.length_drop, Int.reduceSub, Int.reduceAdd, Int.reduceMul, Int.sub_zero, Int.add_zero, Int.zero_add, reduceCtorEq, decide_true, decide_false, Bool.false_eq_true, List.reduceReplicate, *] | simp (disch := omega) only [wrap_i64, wrap_u8, Int.tdiv_eq_ediv_of_nonneg, Int.tmod_eq_emod_of_nonneg, if_pos] | (refine callP_0 (hlong ..) (rfl) (rfl) ?_) | (refine callX_ac (hlong ..) (rfl) (rfl) ?_) | refine callP_x ?_ | (refine ret_gen (by first | exact .inr rfl | exact .inl rfl) (rfl) ?_) | (refine guardP_split (fun _ => ?_) (fun _ => ?_)) | (refine condP_split (fun _ => ?_) (fun _ => ?_)) | (refine guardP_splitB (fun _ => ?_) (fun _ => ?_)) | (refine condP_splitB (fun _ => ?_) (fun _ => ?_)))
  · rw [decide_eq_false hl] at hlong
    simp only [bytesA_len, not_or] at hl
    obtain ⟨t, m, p, hok, hcart⟩ := a2Cart_ac cs (by omega)
    obtain ⟨n, n1, n2, hn⟩ := cart_p hok
    have hp : p.length ≤ 1048576 := by omega
    have hnI : (p.length : Int) / 64 = (n : Int) := by omega
    have hst := iStartCart_ac t m p hp
    rw [startCart, if_pos hok] at hst
    have hbu := iBuildCart_ac t m p hp
    rw [buildCart, if_pos hok] at hbu
    have hfl := file_len (t := t) (m := m) (p := p) hok.1.2.1
    have hrd := iReadCart_ac (cartFile t m p) (by omega)
    rw [readR_file hok] at hrd
    have hby := fun i : Int => a2Byte_ac ms (by omega) i
    refine AC.of_run mo Tryd.func3 Tryd.call3 ⟨rfl, Tryd.ntmps3, Tryd.results3, by kernel_rfl⟩ rfl ?_
    repeat' (first | simp only [go_sem, ↓reduceIte, Nat.reduceEqDiff, Nat.reduceAdd, Nat.reduceMul, Nat.reduceSub, Nat.reduceLeDiff, Nat.reduceLT, Nat.reduceBEq, Nat.reduceBNe, Int.reduceLT, Int.reduceLE, Int.reduceEq, Int.reduceNeg, Int.reduceToNat, Int.toNat_natCast, Int.natCast_nonneg, List.length_append, List.length_map, List.length_replicate, Bool.and_eq_true, decide_eq_true_eq, List.length_take, List.length_drop, Int.reduceSub, Int.reduceAdd, Int.reduceMul, Int.sub_zero, Int.add_zero, Int.zero_add, reduceCtorEq, decide_true, decide_false, Bool.false_eq_true, List.reduceReplicate, *] | simp (disch := omega) only [wrap_i64, wrap_u8, Int.tdiv_eq_ediv_of_nonneg, Int.tmod_eq_emod_of_nonneg, if_pos] | (refine callP_0 (hlong ..) (rfl) (rfl) ?_) | (refine callP_0 (hcart ..) (rfl) (rfl) ?_) | (refine callP_0 (hst ..) (rfl) (rfl) ?_) | (refine callX_ac (hlong ..) (rfl) (rfl) ?_) | (refine callX_ac (hcart ..) (rfl) (rfl) ?_) | (refine callX_ac (hst ..) (rfl) (rfl) ?_) | refine callP_x ?_ | (refine ret_gen (by first | exact .inr rfl | exact .inl rfl) (rfl) ?_) | (refine guardP_split (fun _ => ?_) (fun _ => ?_)) | (refine condP_split (fun _ => ?_) (fun _ => ?_)) | (refine guardP_splitB (fun _ => ?_) (fun _ => ?_)) | (refine condP_splitB (fun _ => ?_) (fun _ => ?_)))
    refine sx_loop (fun mm s => ∃ i a b, i ≤ 4 ∧ mm = 4 - i ∧ s.nx = 0 ∧ s.τ 1 = .lst (bytesA ms) ∧ s.τ 5 = .ptr 3002 0 0 0 ∧ s.τ 6 = .ptr 4005 0 0 0 ∧ s.τ 8 = .int .i64 (i : Nat) ∧
      s.H 3002 = some ⟨3, [.agg [.str t, .int .i64 m, .str p]], 0, true⟩ ∧ s.H 4005 = some ⟨5, [.agg [.str t, .int .i64 m, .str p, .int .i64 a, .int .i64 b]], 0, true⟩ ∧ byteR a ∧ byteR b) 4 ⟨0, 0, 0, by simp [go_sem, byteR]⟩ ?_
    clear hlong hcart hst
    rintro mm s ⟨i, a, b, hi, rfl, hnx, t1, t5, t6, t8, hH1, hH2, ra, rb⟩
    simp only [go_sem, ↓reduceIte, Nat.reduceEqDiff, Nat.reduceAdd, Nat.reduceMul, Nat.reduceSub, Nat.reduceLeDiff, Nat.reduceLT, Nat.reduceBEq, Nat.reduceBNe, Int.reduceLT, Int.reduceLE, Int.reduceEq, Int.reduceNeg, Int.reduceToNat, Int.toNat_natCast, Int.natCast_nonneg, List.length_append, List.length_map, List.length_replicate, Bool.and_eq_true, decide_eq_true_eq, List.length_take, List.length_drop, Int.reduceSub, Int.reduceAdd, Int.reduceMul, Int.sub_zero, Int.add_zero, Int.zero_add, reduceCtorEq, decide_true, decide_false, Bool.false_eq_true, List.reduceReplicate, t1, t5, t6, t8, hnx]
    refine condP_split (fun h => ?_) (fun h => ?_)
    · have v1 := a2V_in ms (2 * (i : Int)) (n := 128) (by omega)
      have v2 := a2V_in ms (2 * (i : Int) + 1) (n := 256) (by omega)
      have e1 := a2Byte_ac ms (by omega) (2 * (i : Int)) 128 (by omega) (by omega)
      have e2 := a2Byte_ac ms (by omega) (2 * (i : Int) + 1) 256 (by omega) (by omega)
      have hpk := iPokeCart_ac t m p a b (a2V ms (2 * (i : Int)) 128) (a2V ms (2 * (i : Int) + 1) 256) hp
      have rv : byteR (a2V ms (2 * (i : Int) + 1) 256) := ⟨v2.1, by omega⟩
      rw [pokeCart, if_pos ⟨hok, ra, rb⟩, if_pos ⟨⟨v1.1, by omega⟩, rv⟩] at hpk
      have ra' := poke_in (m := m) (x := a2V ms (2 * (i : Int)) 128) ra rv
      have rb' := poke_in2 (m := m) (x := a2V ms (2 * (i : Int)) 128) rb rv
      generalize pokeA m (a2V ms (2 * (i : Int)) 128) (a2V ms (2 * (i : Int) + 1) 256) a = a' at *
      generalize pokeB m (a2V ms (2 * (i : Int)) 128) (a2V ms (2 * (i : Int) + 1) 256) b = b' at *
      generalize a2V ms (2 * (i : Int)) 128 = x1 at *
      generalize a2V ms (2 * (i : Int) + 1) 256 = x2 at *
      clear hby hbu hrd hok
      repeat' (first | simp only [go_sem, ↓reduceIte, Nat.reduceEqDiff, Nat.reduceAdd, Nat.reduceMul, Nat.reduceSub, Nat.reduceLeDiff, Nat.reduceLT, Nat.reduceBEq, Nat.reduceBNe, Int.reduceLT, Int.reduceLE, Int.reduceEq, Int.reduceNeg, Int.reduceToNat, Int.toNat_natCast, Int.natCast_nonneg, List.length_append, List.length_map, List.length_replicate, Bool.and_eq_true, decide_eq_true_eq, List.length_take, List.length_drop, Int.reduceSub, Int.reduceAdd, Int.reduceMul, Int.sub_zero, Int.add_zero, Int.zero_add, reduceCtorEq, decide_true, decide_false, Bool.false_eq_true, List.reduceReplicate, *] | simp (disch := omega) only [wrap_i64, wrap_u8, Int.tdiv_eq_ediv_of_nonneg, Int.tmod_eq_emod_of_nonneg, if_pos] | (refine callP_0 (e1 ..) (rfl) (rfl) ?_) | (refine callP_0 (e2 ..) (rfl) (rfl) ?_) | (refine callP_0 (hpk ..) (rfl) (rfl) ?_) | (refine callX_ac (e1 ..) (rfl) (rfl) ?_) | (refine callX_ac (e2 ..) (rfl) (rfl) ?_) | (refine callX_ac (hpk ..) (rfl) (rfl) ?_) | refine callP_x ?_ | (refine ret_gen (by first | exact .inr rfl | exact .inl rfl) (rfl) ?_) | (refine guardP_split (fun _ => ?_) (fun _ => ?_)) | (refine condP_split (fun _ => ?_) (fun _ => ?_)) | (refine guardP_splitB (fun _ => ?_) (fun _ => ?_)) | (refine condP_splitB (fun _ => ?_) (fun _ => ?_)))
      exact ⟨4 - (i + 1), by omega, i + 1, a', b', by omega, rfl, by simp only [Int.natCast_add, Int.cast_ofNat_Int], rfl, ra', rb'⟩
    · have hso : stOk t m p a b := ⟨hok, ra, rb⟩
      have hdu := iDumpCart_ac t m p a b hp
      rw [dumpCart, if_pos hso] at hdu
      have v0 := a2V_in ms 0 (n := 64) (by omega)
      have e0 := a2Byte_ac ms (by omega) 0 64 (by omega) (by omega)
      generalize a2V ms 0 64 = x at *
      have hpe := iPeekCart_ac t m p a b x hp
      rw [peekCart, if_pos hso, if_pos ⟨v0.1, by omega⟩] at hpe
      have hK := shown_in hso (w := x / 64) (by omega)
      have hg := peek_get (x := x) hK
      generalize shown m ((p.length : Int) / 64) a b (x / 64) = K at *
      rw [show (x % 64).toNat = x.toNat by omega] at hg
      have hbk := fun k : Int => bankOf_ac t m p k hok
      generalize peekV p K x = v at *
      have hlb : ∀ k : Int, 0 ≤ k → 64 * k + 64 ≤ p.length → (bankOf p k).length = 64 := fun k h1 h2 => by simp only [bankOf, List.length_take, List.length_drop]; omega
      clear hby ra rb hso hok h
      repeat' (first | simp only [go_sem, ↓reduceIte, Nat.reduceEqDiff, Nat.reduceAdd, Nat.reduceMul, Nat.reduceSub, Nat.reduceLeDiff, Nat.reduceLT, Nat.reduceBEq, Nat.reduceBNe, Int.reduceLT, Int.reduceLE, Int.reduceEq, Int.reduceNeg, Int.reduceToNat, Int.toNat_natCast, Int.natCast_nonneg, List.length_append, List.length_map, List.length_replicate, Bool.and_eq_true, decide_eq_true_eq, List.length_take, List.length_drop, Int.reduceSub, Int.reduceAdd, Int.reduceMul, Int.sub_zero, Int.add_zero, Int.zero_add, reduceCtorEq, decide_true, decide_false, Bool.false_eq_true, List.reduceReplicate, *] | simp (disch := omega) only [wrap_i64, wrap_u8, Int.tdiv_eq_ediv_of_nonneg, Int.tmod_eq_emod_of_nonneg, if_pos] | (refine callP_0 (hdu ..) (rfl) (rfl) ?_) | (refine callP_0 (hbu ..) (rfl) (rfl) ?_) | (refine callP_0 (hrd ..) (rfl) (rfl) ?_) | (refine callP_0 (e0 ..) (rfl) (rfl) ?_) | (refine callP_0 (hpe ..) (rfl) (rfl) ?_) | (refine callX_ac (hdu ..) (rfl) (rfl) ?_) | (refine callX_ac (hbu ..) (rfl) (rfl) ?_) | (refine callX_ac (hrd ..) (rfl) (rfl) ?_) | (refine callX_ac (e0 ..) (rfl) (rfl) ?_) | (refine callX_ac (hpe ..) (rfl) (rfl) ?_) | refine callP_x ?_ | (refine ret_gen (by first | exact .inr rfl | exact .inl rfl) (rfl) ?_) | (refine guardP_split (fun _ => ?_) (fun _ => ?_)) | (refine condP_split (fun _ => ?_) (fun _ => ?_)) | (refine guardP_splitB (fun _ => ?_) (fun _ => ?_)) | (refine condP_splitB (fun _ => ?_) (fun _ => ?_)))
      clear hdu hbu hrd e0 hpe
      refine sx_loop (fun mm s' => ∃ (k : Nat) (fb : Bool), k ≤ 16 ∧ mm = 16 - k ∧ s'.nx = 0 ∧ s'.τ 5 = .ptr 3002 0 0 0 ∧ s'.τ 7 = .int .i64 0 ∧ s'.τ 16 = .int .i64 x ∧ s'.τ 17 = .int .i64 (v.toNat : Int) ∧ s'.τ 18 = .bool fb ∧ s'.τ 19 = .int .i64 (k : Int) ∧
        s'.H 3002 = some ⟨3, [.agg [.str t, .int .i64 m, .str p]], 0, true⟩ ∧ (K < k → fb = true)) 16 ⟨0, false, by omega, rfl, rfl, by simp [upd, t5], by simp [upd], by simp [upd], by simp [upd], by simp [upd], by simp [upd], by simp [upd, hH1], fun h => by omega⟩ ?_
      clear hH1 hH2 hnx t1 t5 t6 t8
      clear s
      rintro mm s ⟨k, fb, hk, rfl, hnx, t5, t7, t16, t17, t18, t19, hH1, hfb⟩
      simp only [go_sem, ↓reduceIte, Nat.reduceEqDiff, Nat.reduceAdd, Nat.reduceMul, Nat.reduceSub, Nat.reduceLeDiff, Nat.reduceLT, Nat.reduceBEq, Nat.reduceBNe, Int.reduceLT, Int.reduceLE, Int.reduceEq, Int.reduceNeg, Int.reduceToNat, Int.toNat_natCast, Int.natCast_nonneg, List.length_append, List.length_map, List.length_replicate, Bool.and_eq_true, decide_eq_true_eq, List.length_take, List.length_drop, Int.reduceSub, Int.reduceAdd, Int.reduceMul, Int.sub_zero, Int.add_zero, Int.zero_add, reduceCtorEq, decide_true, decide_false, Bool.false_eq_true, List.reduceReplicate, t5, t7, t16, t17, t18, t19, hnx]
      refine condP_split (fun h => ?_) (fun h => ?_)
      · have hb := hbk (k : Int) (by omega)
        by_cases hfb' : fb = true
        · subst hfb'
          clear hfb hg
          by_cases hr : (k : Int) < (p.length : Int) / 64
          · rw [if_pos hr] at hb
            clear hr
            repeat' (first | simp only [go_sem, ↓reduceIte, Nat.reduceEqDiff, Nat.reduceAdd, Nat.reduceMul, Nat.reduceSub, Nat.reduceLeDiff, Nat.reduceLT, Nat.reduceBEq, Nat.reduceBNe, Int.reduceLT, Int.reduceLE, Int.reduceEq, Int.reduceNeg, Int.reduceToNat, Int.toNat_natCast, Int.natCast_nonneg, List.length_append, List.length_map, List.length_replicate, Bool.and_eq_true, decide_eq_true_eq, List.length_take, List.length_drop, Int.reduceSub, Int.reduceAdd, Int.reduceMul, Int.sub_zero, Int.add_zero, Int.zero_add, reduceCtorEq, decide_true, decide_false, Bool.false_eq_true, List.reduceReplicate, *] | simp (disch := omega) only [wrap_i64, wrap_u8, Int.tdiv_eq_ediv_of_nonneg, Int.tmod_eq_emod_of_nonneg, if_pos] | (refine callP_0 (hb ..) (rfl) (rfl) ?_) | (refine callX_ac (hb ..) (rfl) (rfl) ?_) | refine callP_x ?_ | (refine ret_gen (by first | exact .inr rfl | exact .inl rfl) (rfl) ?_) | (refine guardP_split (fun _ => ?_) (fun _ => ?_)) | (refine condP_split (fun _ => ?_) (fun _ => ?_)) | (refine guardP_splitB (fun _ => ?_) (fun _ => ?_)) | (refine condP_splitB (fun _ => ?_) (fun _ => ?_)))
            exact ⟨16 - (k + 1), by omega, k + 1, true, by omega, rfl, rfl, by simp only [Int.natCast_add, Int.cast_ofNat_Int], fun _ => rfl⟩
          · rw [if_neg hr] at hb
            clear hr
            repeat' (first | simp only [go_sem, ↓reduceIte, Nat.reduceEqDiff, Nat.reduceAdd, Nat.reduceMul, Nat.reduceSub, Nat.reduceLeDiff, Nat.reduceLT, Nat.reduceBEq, Nat.reduceBNe, Int.reduceLT, Int.reduceLE, Int.reduceEq, Int.reduceNeg, Int.reduceToNat, Int.toNat_natCast, Int.natCast_nonneg, List.length_append, List.length_map, List.length_replicate, Bool.and_eq_true, decide_eq_true_eq, List.length_take, List.length_drop, Int.reduceSub, Int.reduceAdd, Int.reduceMul, Int.sub_zero, Int.add_zero, Int.zero_add, reduceCtorEq, decide_true, decide_false, Bool.false_eq_true, List.reduceReplicate, *] | simp (disch := omega) only [wrap_i64, wrap_u8, Int.tdiv_eq_ediv_of_nonneg, Int.tmod_eq_emod_of_nonneg, if_pos] | (refine callP_0 (hb ..) (rfl) (rfl) ?_) | (refine callX_ac (hb ..) (rfl) (rfl) ?_) | refine callP_x ?_ | (refine ret_gen (by first | exact .inr rfl | exact .inl rfl) (rfl) ?_) | (refine guardP_split (fun _ => ?_) (fun _ => ?_)) | (refine condP_split (fun _ => ?_) (fun _ => ?_)) | (refine guardP_splitB (fun _ => ?_) (fun _ => ?_)) | (refine condP_splitB (fun _ => ?_) (fun _ => ?_)))
            exact ⟨16 - (k + 1), by omega, k + 1, true, by omega, rfl, rfl, by simp only [Int.natCast_add, Int.cast_ofNat_Int], fun _ => rfl⟩
        · have hfalse : fb = false := by simpa using hfb'
          have hkK : (k : Int) ≤ K := by
            refine Int.not_lt.1 fun hlt => hfb' (hfb hlt)
          subst hfalse
          have hr : (k : Int) < (p.length : Int) / 64 := by omega
          have hlen := hlb (k : Int) (by omega) (by omega)
          rw [if_pos hr] at hb
          have hx : x.toNat < (bankOf p (k : Int)).length := by omega
          have hg2 : (bankOf p (k : Int))[x.toNat]? = some ((bankOf p (k : Int))[x.toNat]) := List.getElem?_eq_getElem hx
          have heq : (k : Int) = K → (bankOf p (k : Int))[x.toNat] = v := fun e => by
            have h3 : (bankOf p (k : Int))[x.toNat]? = some v := by rw [e]; exact hg
            rw [hg2] at h3
            exact Option.some.inj h3
          generalize (bankOf p (k : Int))[x.toNat] = u at *
          have hu := u.toNat_lt
          have hx64 : x < ((64 : Nat) : Int) := by omega
          clear hg hfb hfb'
          by_cases huv : (u.toNat : Int) = (v.toNat : Int)
          · clear hr heq hkK
            repeat' (first | simp only [go_sem, ↓reduceIte, Nat.reduceEqDiff, Nat.reduceAdd, Nat.reduceMul, Nat.reduceSub, Nat.reduceLeDiff, Nat.reduceLT, Nat.reduceBEq, Nat.reduceBNe, Int.reduceLT, Int.reduceLE, Int.reduceEq, Int.reduceNeg, Int.reduceToNat, Int.toNat_natCast, Int.natCast_nonneg, List.length_append, List.length_map, List.length_replicate, Bool.and_eq_true, decide_eq_true_eq, List.length_take, List.length_drop, Int.reduceSub, Int.reduceAdd, Int.reduceMul, Int.sub_zero, Int.add_zero, Int.zero_add, reduceCtorEq, decide_true, decide_false, Bool.false_eq_true, List.reduceReplicate, *] | simp (disch := omega) only [wrap_i64, wrap_u8, Int.tdiv_eq_ediv_of_nonneg, Int.tmod_eq_emod_of_nonneg, if_pos] | (refine callP_0 (hb ..) (rfl) (rfl) ?_) | (refine callX_ac (hb ..) (rfl) (rfl) ?_) | refine callP_x ?_ | (refine ret_gen (by first | exact .inr rfl | exact .inl rfl) (rfl) ?_) | (refine guardP_split (fun _ => ?_) (fun _ => ?_)) | (refine condP_split (fun _ => ?_) (fun _ => ?_)) | (refine guardP_splitB (fun _ => ?_) (fun _ => ?_)) | (refine condP_splitB (fun _ => ?_) (fun _ => ?_)))
            exact ⟨16 - (k + 1), by omega, k + 1, true, by omega, rfl, rfl, by simp only [Int.natCast_add, Int.cast_ofNat_Int], fun _ => rfl⟩
          · have hne : ¬ (k : Int) = K := fun e => huv (by rw [heq e])
            clear hr heq
            repeat' (first | simp only [go_sem, ↓reduceIte, Nat.reduceEqDiff, Nat.reduceAdd, Nat.reduceMul, Nat.reduceSub, Nat.reduceLeDiff, Nat.reduceLT, Nat.reduceBEq, Nat.reduceBNe, Int.reduceLT, Int.reduceLE, Int.reduceEq, Int.reduceNeg, Int.reduceToNat, Int.toNat_natCast, Int.natCast_nonneg, List.length_append, List.length_map, List.length_replicate, Bool.and_eq_true, decide_eq_true_eq, List.length_take, List.length_drop, Int.reduceSub, Int.reduceAdd, Int.reduceMul, Int.sub_zero, Int.add_zero, Int.zero_add, reduceCtorEq, decide_true, decide_false, Bool.false_eq_true, List.reduceReplicate, *] | simp (disch := omega) only [wrap_i64, wrap_u8, Int.tdiv_eq_ediv_of_nonneg, Int.tmod_eq_emod_of_nonneg, if_pos] | (refine callP_0 (hb ..) (rfl) (rfl) ?_) | (refine callX_ac (hb ..) (rfl) (rfl) ?_) | refine callP_x ?_ | (refine ret_gen (by first | exact .inr rfl | exact .inl rfl) (rfl) ?_) | (refine guardP_split (fun _ => ?_) (fun _ => ?_)) | (refine condP_split (fun _ => ?_) (fun _ => ?_)) | (refine guardP_splitB (fun _ => ?_) (fun _ => ?_)) | (refine condP_splitB (fun _ => ?_) (fun _ => ?_)))
            exact ⟨16 - (k + 1), by omega, k + 1, false, by omega, rfl, rfl, by simp only [Int.natCast_add, Int.cast_ofNat_Int], fun h => by omega⟩
      · have e : fb = true := hfb (by omega)
        subst e
        repeat' (first | simp only [go_sem, ↓reduceIte, Nat.reduceEqDiff, Nat.reduceAdd, Nat.reduceMul, Nat.reduceSub, Nat.reduceLeDiff, Nat.reduceLT, Nat.reduceBEq, Nat.reduceBNe, Int.reduceLT, Int.reduceLE, Int.reduceEq, Int.reduceNeg, Int.reduceToNat, Int.toNat_natCast, Int.natCast_nonneg, List.length_append, List.length_map, List.length_replicate, Bool.and_eq_true, decide_eq_true_eq, List.length_take, List.length_drop, Int.reduceSub, Int.reduceAdd, Int.reduceMul, Int.sub_zero, Int.add_zero, Int.zero_add, reduceCtorEq, decide_true, decide_false, Bool.false_eq_true, List.reduceReplicate, *] | simp (disch := omega) only [wrap_i64, wrap_u8, Int.tdiv_eq_ediv_of_nonneg, Int.tmod_eq_emod_of_nonneg, if_pos] | refine callP_x ?_ | (refine ret_gen (by first | exact .inr rfl | exact .inl rfl) (rfl) ?_) | (refine guardP_split (fun _ => ?_) (fun _ => ?_)) | (refine condP_split (fun _ => ?_) (fun _ => ?_)) | (refine guardP_splitB (fun _ => ?_) (fun _ => ?_)) | (refine condP_splitB (fun _ => ?_) (fun _ => ?_)))
theorem law (xs : List AV) (h : DatA Tryd.prog [22, 22] xs) : AC Tryd.prog 3 xs (.bool true) := by
  simp only [datA_cons, datA_nil, datV_eq, tk22, tk5, datVK_slice, datVK_int, dat_succ, datK_slice, datK_int] at h
  obtain ⟨x, r, rfl, ⟨xs, hx, h1, h2⟩, y, r2, rfl, ⟨ys, hy, h3, h4⟩, rfl⟩ := h
  simp only [List.cons.injEq, and_true] at hx hy
  subst hx hy
  have byte : ∀ z, (∃ m, [z] = [AV.int .u8 m] ∧ (Lit.int IntKind.u8 m).wf = true) → ∃ b : UInt8, z = .int .u8 (b.toNat : Int) ∧ True := by
    rintro z ⟨m, hz, hw⟩
    simp only [List.cons.injEq, and_true] at hz
    have hb : 0 ≤ m ∧ m ≤ 255 := by simpa [Lit.wf, IntKind.min, IntKind.max, IntKind.bits, IntKind.signed] using hw
    refine ⟨UInt8.ofNat m.toNat, ?_, trivial⟩
    rw [hz, ofNat_small (by omega)]
    congr 1
    omega
  obtain ⟨cs, rfl, -⟩ := all_map (f := fun b : UInt8 => AV.int .u8 (b.toNat : Int)) (P := fun _ => True) fun z hz => byte z (h2 z hz)
  obtain ⟨ms, rfl, -⟩ := all_map (f := fun b : UInt8 => AV.int .u8 (b.toNat : Int)) (P := fun _ => True) fun z hz => byte z (h4 z hz)
  rw [List.length_map] at h1 h3
  exact law0 cs ms h1 h3
set_option maxRecDepth 100000 in
theorem lifted (os : Os) (started : os.Started) (H : Type) (enc : TypeId × Value → H) :
    ReturnsInHanded {} Tryd.checked os 3 .any (fun w args => (Rows.fnBanksSpec.pre enc Tryd.prog Tryd.f3 Rows.fnBanksRow.domain false w args ∧ laidMetH Tryd.prog Rows.fnBanksRow.laid w) ∧ sizedMet enc Tryd.prog Tryd.f3 (OpenSpec.ofChange Rows.fnBanksSpec) false w args) (Rows.fnBanksSpec.post enc Tryd.prog Tryd.f3 false true false false) := by
  refine returnsInHanded_of_change_and (C := Tryd.checked) (X := fun w _ => laidMetH Tryd.prog Rows.fnBanksRow.laid w) (fun _ _ _ hh h => h.of_heap hh) own started (by kernel_rfl) Tryd.func3
    (ChangeSpec.witness_shaped (enc := enc) (C := Tryd.checked) (os := os) (X := fun w _ => laidMetH Tryd.prog Rows.fnBanksRow.laid w) false (World.laidAll Tryd.prog os Rows.fnBanksRow.laid) #[.slice none 0 0, .slice none 0 0] 8 (World.laidAll_os _ _ _)
      (World.shaped_of_ZipB (by kernel_rfl) (by kernel_rfl)) (by kernel_rfl) (by kernel_rfl) (by kernel_rfl)
      (by rw [MakeChecks.laidMetH_plain _ _ _ (by kernel_rfl)]; exact laidMet_laidAll _ (by kernel_rfl) (by kernel_rfl))) ?_
  intro W base args ds gs before hval0 hW hcnd _ hL _
  have hval : ∀ (j : Nat) t v, Tryd.f3.params[j]? = some t → args[j]? = some v → Value.okWide Tryd.prog W .any base t v := hval0
  have hW' := hW
  obtain ⟨p, q, hA0, hV, rfl, hfz, hnd⟩ := hW
  have hA : DataW.TrodAll enc Tryd.prog W 0 (fun _ => true) true Tryd.f3.params.toList args.toList ds p := hA0
  rw [Tryd.params3] at hA hval
  obtain ⟨rfl, rfl⟩ := trodVars_none hV
  have hl : ds.length = 2 := trodAll_len hA
  clear hA0 hval0
  refine (law_calls laid (by kernel_rfl) (by kernel_rfl) hA (fun j t v h h' => hval j t v (by simpa using h) h') law).mono fun e W' ⟨he, bel, hB⟩ => ?_
  subst he
  match ds, hl with
  | [d0, d1], _ => exact ⟨_, rfl, [d0, d1], [], _, [], _, [], hW', trodAll_mk1 (shut_bool Tryd.underlying4 _), hB, rfl, bel.frame _, fun h => by cases h⟩
theorem over : Rows.fnBanksRow.holds Tryd.pinned (OpenSpec.ofChange Rows.fnBanksSpec) :=
  OpenClaim.holds_of_wide 3 Tryd.f3 rfl rfl rfl rfl rfl rfl rfl ⟨rfl, rfl, rfl, rfl, rfl⟩ rfl rfl rfl rfl rfl (by kernel_rfl) Tryd.func3 (by kernel_rfl)
    (of_decide_eq_true (by kernel_rfl)) (by unfold Func.isWrapper; first | (rw [if_pos (by decide +kernel)]; kernel_rfl) | (rw [if_neg (by decide +kernel)]; exact ⟨rfl, rfl⟩))
    (fun os started H enc _ => lifted os started H enc)
theorem proved : Rows.FnBanksCardSaid :=
  Claim7.holds_tied_plain_at .later [] [.data, .pinned] true (true, "d1ca3d26d621f152c3245100f807af32622d04d8d329faae4663d065b698daac") false over (fun _ h => by cases h) (by kernel_rfl) (fun _ h => by cases h) fnBanks_row_tie rfl ⟨rfl, rfl⟩ (by kernel_rfl) rfl
    (fun f fn hf hfn => by
      obtain rfl : f = 3 := Option.some.inj ((show Tryd.prog.funcNamed "loop.example/g00899/laws.FnBanks" = some 3 by kernel_rfl).symm.trans hf) |>.symm
      obtain rfl : fn = Tryd.f3 := (Option.some.inj (Tryd.func3.symm.trans hfn)).symm
      exact ⟨by kernel_rfl, fun j t ht => by
        rw [Tryd.params3] at ht
        have hm : t ∈ [22, 22] := by simpa using Array.mem_of_getElem? ht
        have hall : ([22, 22].all fun u => !Tryd.prog.wantsStandIn u) = true := by kernel_rfl
        exact (show Tryd.prog.wantsStandIn t = false by simpa using List.all_eq_true.1 hall t hm)⟩)
    (by kernel_rfl)
end Go.Proofs.YtjoomndcdpkplaaDoor.fnBanks
namespace Go.Proofs.YtjoomndcdpkplaaDoor
/-- The card, under a short name, for the claim. -/
theorem fnBanks_holds : Rows.FnBanksCardSaid := fnBanks.proved
end Go.Proofs.YtjoomndcdpkplaaDoor
#print axioms Go.Proofs.YtjoomndcdpkplaaDoor.fnBanks_holds
