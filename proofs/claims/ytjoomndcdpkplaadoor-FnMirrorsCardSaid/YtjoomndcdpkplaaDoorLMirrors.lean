/- A string that is repeated has its period again; whatever stands behind a file is removed and told. Conditions: those of the row alone. -/
import Derived.Test.YtjoomndcdpkplaaDoorRows
import Derived.Test.YtjoomndcdpkplaaDoorCBanks
import Derived.Test.YtjoomndcdpkplaaDoorCWord
import Derived.Test.YtjoomndcdpkplaaDoorCMir
import Derived.Test.YtjoomndcdpkplaaDoorCards
import Derived.Test.YtjoomndcdpkplaaDoorTie
import Derived.LaidMore
import Derived.Lay
import Derived.SevenTiedAt
import Derived.Stop.Joined
import Derived.WalkKit
import Derived.ProofKit
import Derived.OpenShut
import Derived.ShutString
import Derived.ChangeOld
import Derived.Below
import Derived.SizedLaws
namespace Go.Proofs.YtjoomndcdpkplaaDoor.fnMirrors
open Go.ChangeShapes Go.WideShapes Go.ChangeAt Go.RowKit Go.Ab
open Go.ChangeMaps (open_string shut_string)
set_option linter.unusedVariables false
set_option linter.unusedSimpArgs false
theorem own : ownKnob Tryd.prog.godebug = none := by kernel_rfl
theorem laid : laidOutB Tryd.prog = true := by kernel_rfl
set_option maxRecDepth 10000
set_option maxHeartbeats 4000000
theorem law0 (cs ms : List UInt8) (h1 : cs.length ≤ maxLen) (h2 : ms.length ≤ maxLen) : AC Tryd.prog 4 [.lst (bytesA cs), .lst (bytesA ms)] (.bool true) := by
  have hlong := a2Long_ac (bytesA cs) (bytesA ms) (by rw [bytesA_len]; exact h1) (by rw [bytesA_len]; exact h2)
  by_cases hl : 3000 < (bytesA cs).length ∨ 3000 < (bytesA ms).length
  · rw [decide_eq_true hl] at hlong
    refine AC.of_run mo Tryd.func4 Tryd.call4 ⟨rfl, Tryd.ntmps4, Tryd.results4, by kernel_rfl⟩ rfl ?_
    repeat' (first | simp only [go_sem, ↓reduceIte, Nat.reduceEqDiff, Nat.reduceAdd, Nat.reduceMul, Nat.reduceSub, Nat.reduceLeDiff, Nat.reduceLT, Nat.reduceBEq, Nat.reduceBNe, Int.reduceLT, Int.reduceLE, Int.reduceEq, Int.reduceNeg, Int.reduceToNat, Int.toNat_natCast, Int.natCast_nonneg, List.length_append, List.length_map, List.length_replicate, Bool.and_eq_true, decide_eq_true_eq, List.length_take, List.length_drop, Int.reduceSub, Int.reduceAdd, Int.reduceMul, Int.sub_zero, Int.add_zero, Int.zero_add, reduceCtorEq, decide_true, decide_false, Bool.false_eq_true, List.reduceReplicate, *] | simp (disch := omega) only [wrap_i64, wrap_u8, Int.tdiv_eq_ediv_of_nonneg, Int.tmod_eq_emod_of_nonneg, if_pos] | (refine callP_0 (hlong ..) (rfl) (rfl) ?_) | (refine callX_ac (hlong ..) (rfl) (rfl) ?_) | refine callP_x ?_ | (refine ret_gen (by first | exact .inr rfl | exact .inl rfl) (rfl) ?_) | (refine guardP_split (fun _ => ?_) (fun _ => ?_)) | (refine condP_split (fun _ => ?_) (fun _ => ?_)) | (refine guardP_splitB (fun _ => ?_) (fun _ => ?_)) | (refine condP_splitB (fun _ => ?_) (fun _ => ?_)))
  · rw [decide_eq_false hl] at hlong
    simp only [bytesA_len, not_or] at hl
    obtain ⟨t, m, p, hok, hcart⟩ := a2Cart_ac ms (by omega)
    obtain ⟨n, n1, n2, hn⟩ := cart_p hok
    obtain ⟨l, hl100, hdr⟩ := drawPeriod_ac cs (by omega)
    have hp : p.length ≤ 1048576 := by omega
    have hpne : p ≠ [] := fun e => by rw [e] at hn; simp at hn; omega
    have hbu := iBuildCart_ac t m p hp
    rw [buildCart, if_pos hok] at hbu
    have hfl := file_len (t := t) (m := m) (p := p) hok.1.2.1
    have td1 := iTrimDump_ac (cartFile t m p ++ p) (by rw [List.length_append]; omega) t p m 0 (read_behind hok p)
    rw [dump_behind hok p (by omega)] at td1
    have td2 := iTrimDump_ac (cartFile t m p ++ [255, 255, 255]) (by rw [List.length_append, List.length_cons, List.length_cons, List.length_cons, List.length_nil]; omega) t p m 0 (read_behind hok _)
    rw [dump_behind hok _ (by simp), beh_fill] at td2
    have td3 := iTrimDump_ac (cartFile t m p ++ []) (by rw [List.append_nil]; omega) t p m 0 (read_behind hok [])
    rw [dump_behind hok _ (by simp), beh_none, List.append_nil] at td3
    have hb := beh_same hpne
    generalize behR p p = bb at *
    generalize cartFile t m p = f at *
    have hfp : f.length + p.length ≤ 4611686018427387904 := by omega
    have hf3 : f.length + 3 ≤ 4611686018427387904 := by omega
    clear hok hpne
    by_cases h0 : l = []
    · subst h0
      have hp1 := period0_ac
      rcases hb with rfl | rfl
      · refine AC.of_run mo Tryd.func4 Tryd.call4 ⟨rfl, Tryd.ntmps4, Tryd.results4, by kernel_rfl⟩ rfl ?_
        repeat' (first | simp only [go_sem, ↓reduceIte, Nat.reduceEqDiff, Nat.reduceAdd, Nat.reduceMul, Nat.reduceSub, Nat.reduceLeDiff, Nat.reduceLT, Nat.reduceBEq, Nat.reduceBNe, Int.reduceLT, Int.reduceLE, Int.reduceEq, Int.reduceNeg, Int.reduceToNat, Int.toNat_natCast, Int.natCast_nonneg, List.length_append, List.length_map, List.length_replicate, Bool.and_eq_true, decide_eq_true_eq, List.length_take, List.length_drop, Int.reduceSub, Int.reduceAdd, Int.reduceMul, Int.sub_zero, Int.add_zero, Int.zero_add, reduceCtorEq, decide_true, decide_false, Bool.false_eq_true, List.reduceReplicate, *] | simp (disch := omega) only [wrap_i64, wrap_u8, Int.tdiv_eq_ediv_of_nonneg, Int.tmod_eq_emod_of_nonneg, if_pos] | (refine callP_0 (hlong ..) (rfl) (rfl) ?_) | (refine callP_0 (hdr ..) (rfl) (rfl) ?_) | (refine callP_0 (hp1 ..) (rfl) (rfl) ?_) | (refine callP_0 (hcart ..) (rfl) (rfl) ?_) | (refine callP_0 (hbu ..) (rfl) (rfl) ?_) | (refine callP_0 (td1 ..) (rfl) (rfl) ?_) | (refine callP_0 (td2 ..) (rfl) (rfl) ?_) | (refine callP_0 (td3 ..) (rfl) (rfl) ?_) | (refine callX_ac (hlong ..) (rfl) (rfl) ?_) | (refine callX_ac (hdr ..) (rfl) (rfl) ?_) | (refine callX_ac (hp1 ..) (rfl) (rfl) ?_) | (refine callX_ac (hcart ..) (rfl) (rfl) ?_) | (refine callX_ac (hbu ..) (rfl) (rfl) ?_) | (refine callX_ac (td1 ..) (rfl) (rfl) ?_) | (refine callX_ac (td2 ..) (rfl) (rfl) ?_) | (refine callX_ac (td3 ..) (rfl) (rfl) ?_) | refine callP_x ?_ | (refine ret_gen (by first | exact .inr rfl | exact .inl rfl) (rfl) ?_) | (refine guardP_split (fun _ => ?_) (fun _ => ?_)) | (refine condP_split (fun _ => ?_) (fun _ => ?_)) | (refine guardP_splitB (fun _ => ?_) (fun _ => ?_)) | (refine condP_splitB (fun _ => ?_) (fun _ => ?_)))
      · refine AC.of_run mo Tryd.func4 Tryd.call4 ⟨rfl, Tryd.ntmps4, Tryd.results4, by kernel_rfl⟩ rfl ?_
        repeat' (first | simp only [go_sem, ↓reduceIte, Nat.reduceEqDiff, Nat.reduceAdd, Nat.reduceMul, Nat.reduceSub, Nat.reduceLeDiff, Nat.reduceLT, Nat.reduceBEq, Nat.reduceBNe, Int.reduceLT, Int.reduceLE, Int.reduceEq, Int.reduceNeg, Int.reduceToNat, Int.toNat_natCast, Int.natCast_nonneg, List.length_append, List.length_map, List.length_replicate, Bool.and_eq_true, decide_eq_true_eq, List.length_take, List.length_drop, Int.reduceSub, Int.reduceAdd, Int.reduceMul, Int.sub_zero, Int.add_zero, Int.zero_add, reduceCtorEq, decide_true, decide_false, Bool.false_eq_true, List.reduceReplicate, *] | simp (disch := omega) only [wrap_i64, wrap_u8, Int.tdiv_eq_ediv_of_nonneg, Int.tmod_eq_emod_of_nonneg, if_pos] | (refine callP_0 (hlong ..) (rfl) (rfl) ?_) | (refine callP_0 (hdr ..) (rfl) (rfl) ?_) | (refine callP_0 (hp1 ..) (rfl) (rfl) ?_) | (refine callP_0 (hcart ..) (rfl) (rfl) ?_) | (refine callP_0 (hbu ..) (rfl) (rfl) ?_) | (refine callP_0 (td1 ..) (rfl) (rfl) ?_) | (refine callP_0 (td2 ..) (rfl) (rfl) ?_) | (refine callP_0 (td3 ..) (rfl) (rfl) ?_) | (refine callX_ac (hlong ..) (rfl) (rfl) ?_) | (refine callX_ac (hdr ..) (rfl) (rfl) ?_) | (refine callX_ac (hp1 ..) (rfl) (rfl) ?_) | (refine callX_ac (hcart ..) (rfl) (rfl) ?_) | (refine callX_ac (hbu ..) (rfl) (rfl) ?_) | (refine callX_ac (td1 ..) (rfl) (rfl) ?_) | (refine callX_ac (td2 ..) (rfl) (rfl) ?_) | (refine callX_ac (td3 ..) (rfl) (rfl) ?_) | refine callP_x ?_ | (refine ret_gen (by first | exact .inr rfl | exact .inl rfl) (rfl) ?_) | (refine guardP_split (fun _ => ?_) (fun _ => ?_)) | (refine condP_split (fun _ => ?_) (fun _ => ?_)) | (refine guardP_splitB (fun _ => ?_) (fun _ => ?_)) | (refine condP_splitB (fun _ => ?_) (fun _ => ?_)))
    · have hpos : 0 < l.length := List.length_pos_iff.2 h0
      obtain ⟨N, hN⟩ := ex_per (l := l) hpos
      have hp1 := period_ac l (by omega) N hN
      have hm1 := iMirrorTo_ac l (3 * (l.length : Int)) (by omega)
      rw [mir_three h0 hl100] at hm1
      have hp2 := period_ac (Go.Lib.repeatL l 3) (by rw [repL_len]; omega) N (per_rep hN (by omega))
      have hm2 := iMirrorTo_ac (l.take N) (l.length : Int) (by rw [List.length_take]; omega)
      rw [mir_per hN hl100] at hm2
      have hx : (Go.Lib.repeatL l 3).length ≤ 300 := by rw [repL_len]; omega
      generalize Go.Lib.repeatL l 3 = x at *
      obtain ⟨N1, N2, ⟨N3, -⟩, -⟩ := hN
      have c1 : ¬ (N : Int) < 1 := by omega
      have c2 : ¬ (l.length : Int) < (N : Int) := by omega
      have c3 : ¬ (N : Int) = 0 := by omega
      have c4 : (l.length : Int) % (N : Int) = 0 := by omega
      have c5 : (l.length : Int) ≤ 100 := by omega
      clear N3
      rcases hb with rfl | rfl
      · refine AC.of_run mo Tryd.func4 Tryd.call4 ⟨rfl, Tryd.ntmps4, Tryd.results4, by kernel_rfl⟩ rfl ?_
        repeat' (first | simp only [go_sem, ↓reduceIte, Nat.reduceEqDiff, Nat.reduceAdd, Nat.reduceMul, Nat.reduceSub, Nat.reduceLeDiff, Nat.reduceLT, Nat.reduceBEq, Nat.reduceBNe, Int.reduceLT, Int.reduceLE, Int.reduceEq, Int.reduceNeg, Int.reduceToNat, Int.toNat_natCast, Int.natCast_nonneg, List.length_append, List.length_map, List.length_replicate, Bool.and_eq_true, decide_eq_true_eq, List.length_take, List.length_drop, Int.reduceSub, Int.reduceAdd, Int.reduceMul, Int.sub_zero, Int.add_zero, Int.zero_add, reduceCtorEq, decide_true, decide_false, Bool.false_eq_true, List.reduceReplicate, *] | simp (disch := omega) only [wrap_i64, wrap_u8, Int.tdiv_eq_ediv_of_nonneg, Int.tmod_eq_emod_of_nonneg, if_pos] | (refine callP_0 (hlong ..) (rfl) (rfl) ?_) | (refine callP_0 (hdr ..) (rfl) (rfl) ?_) | (refine callP_0 (hp1 ..) (rfl) (rfl) ?_) | (refine callP_0 (hm1 ..) (rfl) (rfl) ?_) | (refine callP_0 (hp2 ..) (rfl) (rfl) ?_) | (refine callP_0 (hm2 ..) (rfl) (rfl) ?_) | (refine callP_0 (hcart ..) (rfl) (rfl) ?_) | (refine callP_0 (hbu ..) (rfl) (rfl) ?_) | (refine callP_0 (td1 ..) (rfl) (rfl) ?_) | (refine callP_0 (td2 ..) (rfl) (rfl) ?_) | (refine callP_0 (td3 ..) (rfl) (rfl) ?_) | (refine callX_ac (hlong ..) (rfl) (rfl) ?_) | (refine callX_ac (hdr ..) (rfl) (rfl) ?_) | (refine callX_ac (hp1 ..) (rfl) (rfl) ?_) | (refine callX_ac (hm1 ..) (rfl) (rfl) ?_) | (refine callX_ac (hp2 ..) (rfl) (rfl) ?_) | (refine callX_ac (hm2 ..) (rfl) (rfl) ?_) | (refine callX_ac (hcart ..) (rfl) (rfl) ?_) | (refine callX_ac (hbu ..) (rfl) (rfl) ?_) | (refine callX_ac (td1 ..) (rfl) (rfl) ?_) | (refine callX_ac (td2 ..) (rfl) (rfl) ?_) | (refine callX_ac (td3 ..) (rfl) (rfl) ?_) | refine callP_x ?_ | (refine ret_gen (by first | exact .inr rfl | exact .inl rfl) (rfl) ?_) | (refine guardP_split (fun _ => ?_) (fun _ => ?_)) | (refine condP_split (fun _ => ?_) (fun _ => ?_)) | (refine guardP_splitB (fun _ => ?_) (fun _ => ?_)) | (refine condP_splitB (fun _ => ?_) (fun _ => ?_)))
      · refine AC.of_run mo Tryd.func4 Tryd.call4 ⟨rfl, Tryd.ntmps4, Tryd.results4, by kernel_rfl⟩ rfl ?_
        repeat' (first | simp only [go_sem, ↓reduceIte, Nat.reduceEqDiff, Nat.reduceAdd, Nat.reduceMul, Nat.reduceSub, Nat.reduceLeDiff, Nat.reduceLT, Nat.reduceBEq, Nat.reduceBNe, Int.reduceLT, Int.reduceLE, Int.reduceEq, Int.reduceNeg, Int.reduceToNat, Int.toNat_natCast, Int.natCast_nonneg, List.length_append, List.length_map, List.length_replicate, Bool.and_eq_true, decide_eq_true_eq, List.length_take, List.length_drop, Int.reduceSub, Int.reduceAdd, Int.reduceMul, Int.sub_zero, Int.add_zero, Int.zero_add, reduceCtorEq, decide_true, decide_false, Bool.false_eq_true, List.reduceReplicate, *] | simp (disch := omega) only [wrap_i64, wrap_u8, Int.tdiv_eq_ediv_of_nonneg, Int.tmod_eq_emod_of_nonneg, if_pos] | (refine callP_0 (hlong ..) (rfl) (rfl) ?_) | (refine callP_0 (hdr ..) (rfl) (rfl) ?_) | (refine callP_0 (hp1 ..) (rfl) (rfl) ?_) | (refine callP_0 (hm1 ..) (rfl) (rfl) ?_) | (refine callP_0 (hp2 ..) (rfl) (rfl) ?_) | (refine callP_0 (hm2 ..) (rfl) (rfl) ?_) | (refine callP_0 (hcart ..) (rfl) (rfl) ?_) | (refine callP_0 (hbu ..) (rfl) (rfl) ?_) | (refine callP_0 (td1 ..) (rfl) (rfl) ?_) | (refine callP_0 (td2 ..) (rfl) (rfl) ?_) | (refine callP_0 (td3 ..) (rfl) (rfl) ?_) | (refine callX_ac (hlong ..) (rfl) (rfl) ?_) | (refine callX_ac (hdr ..) (rfl) (rfl) ?_) | (refine callX_ac (hp1 ..) (rfl) (rfl) ?_) | (refine callX_ac (hm1 ..) (rfl) (rfl) ?_) | (refine callX_ac (hp2 ..) (rfl) (rfl) ?_) | (refine callX_ac (hm2 ..) (rfl) (rfl) ?_) | (refine callX_ac (hcart ..) (rfl) (rfl) ?_) | (refine callX_ac (hbu ..) (rfl) (rfl) ?_) | (refine callX_ac (td1 ..) (rfl) (rfl) ?_) | (refine callX_ac (td2 ..) (rfl) (rfl) ?_) | (refine callX_ac (td3 ..) (rfl) (rfl) ?_) | refine callP_x ?_ | (refine ret_gen (by first | exact .inr rfl | exact .inl rfl) (rfl) ?_) | (refine guardP_split (fun _ => ?_) (fun _ => ?_)) | (refine condP_split (fun _ => ?_) (fun _ => ?_)) | (refine guardP_splitB (fun _ => ?_) (fun _ => ?_)) | (refine condP_splitB (fun _ => ?_) (fun _ => ?_)))
theorem law (xs : List AV) (h : DatA Tryd.prog [22, 22] xs) : AC Tryd.prog 4 xs (.bool true) := by
  simp only [datA_cons, datA_nil, datV_eq, tk22, tk5, datVK_slice, datVK_int, dat_succ, datK_slice, datK_int] at h
  obtain ⟨x, r, rfl, ⟨xs, hx, h1, h2⟩, y, r2, rfl, ⟨ys, hy, h3, h4⟩, rfl⟩ := h
  simp only [List.cons.injEq, and_true] at hx hy
  subst hx hy
  have byte : ∀ z, (∃ m, [z] = [AV.int .u8 m] ∧ (Lit.int IntKind.u8 m).wf = true) → ∃ b : UInt8, z = .int .u8 (b.toNat : Int) ∧ True := by
    rintro z ⟨m, hz, hw⟩
    simp only [List.cons.injEq, and_true] at hz
    have hb : 0 ≤ m ∧ m ≤ 255 := by simpa [Lit.wf, IntKind.min, IntKind.max, IntKind.bits, IntKind.signed] using hw
    refine ⟨UInt8.ofNat m.toNat, ?_, trivial⟩
    rw [hz, ofNat_small (by omega)]
    congr 1
    omega
  obtain ⟨cs, rfl, -⟩ := all_map (f := fun b : UInt8 => AV.int .u8 (b.toNat : Int)) (P := fun _ => True) fun z hz => byte z (h2 z hz)
  obtain ⟨ms, rfl, -⟩ := all_map (f := fun b : UInt8 => AV.int .u8 (b.toNat : Int)) (P := fun _ => True) fun z hz => byte z (h4 z hz)
  rw [List.length_map] at h1 h3
  exact law0 cs ms h1 h3
set_option maxRecDepth 100000 in
theorem lifted (os : Os) (started : os.Started) (H : Type) (enc : TypeId × Value → H) :
    ReturnsInHanded {} Tryd.checked os 4 .any (fun w args => (Rows.fnMirrorsSpec.pre enc Tryd.prog Tryd.f4 Rows.fnMirrorsRow.domain false w args ∧ laidMetH Tryd.prog Rows.fnMirrorsRow.laid w) ∧ sizedMet enc Tryd.prog Tryd.f4 (OpenSpec.ofChange Rows.fnMirrorsSpec) false w args) (Rows.fnMirrorsSpec.post enc Tryd.prog Tryd.f4 false true false false) := by
  refine returnsInHanded_of_change_and (C := Tryd.checked) (X := fun w _ => laidMetH Tryd.prog Rows.fnMirrorsRow.laid w) (fun _ _ _ hh h => h.of_heap hh) own started (by kernel_rfl) Tryd.func4
    (ChangeSpec.witness_shaped (enc := enc) (C := Tryd.checked) (os := os) (X := fun w _ => laidMetH Tryd.prog Rows.fnMirrorsRow.laid w) false (World.laidAll Tryd.prog os Rows.fnMirrorsRow.laid) #[.slice none 0 0, .slice none 0 0] 8 (World.laidAll_os _ _ _)
      (World.shaped_of_ZipB (by kernel_rfl) (by kernel_rfl)) (by kernel_rfl) (by kernel_rfl) (by kernel_rfl)
      (by rw [MakeChecks.laidMetH_plain _ _ _ (by kernel_rfl)]; exact laidMet_laidAll _ (by kernel_rfl) (by kernel_rfl))) ?_
  intro W base args ds gs before hval0 hW hcnd _ hL _
  have hval : ∀ (j : Nat) t v, Tryd.f4.params[j]? = some t → args[j]? = some v → Value.okWide Tryd.prog W .any base t v := hval0
  have hW' := hW
  obtain ⟨p, q, hA0, hV, rfl, hfz, hnd⟩ := hW
  have hA : DataW.TrodAll enc Tryd.prog W 0 (fun _ => true) true Tryd.f4.params.toList args.toList ds p := hA0
  rw [Tryd.params4] at hA hval
  obtain ⟨rfl, rfl⟩ := trodVars_none hV
  have hl : ds.length = 2 := trodAll_len hA
  clear hA0 hval0
  refine (law_calls laid (by kernel_rfl) (by kernel_rfl) hA (fun j t v h h' => hval j t v (by simpa using h) h') law).mono fun e W' ⟨he, bel, hB⟩ => ?_
  subst he
  match ds, hl with
  | [d0, d1], _ => exact ⟨_, rfl, [d0, d1], [], _, [], _, [], hW', trodAll_mk1 (shut_bool Tryd.underlying4 _), hB, rfl, bel.frame _, fun h => by cases h⟩
theorem over : Rows.fnMirrorsRow.holds Tryd.pinned (OpenSpec.ofChange Rows.fnMirrorsSpec) :=
  OpenClaim.holds_of_wide 4 Tryd.f4 rfl rfl rfl rfl rfl rfl rfl ⟨rfl, rfl, rfl, rfl, rfl⟩ rfl rfl rfl rfl rfl (by kernel_rfl) Tryd.func4 (by kernel_rfl)
    (of_decide_eq_true (by kernel_rfl)) (by unfold Func.isWrapper; first | (rw [if_pos (by decide +kernel)]; kernel_rfl) | (rw [if_neg (by decide +kernel)]; exact ⟨rfl, rfl⟩))
    (fun os started H enc _ => lifted os started H enc)
theorem proved : Rows.FnMirrorsCardSaid :=
  Claim7.holds_tied_plain_at .later [] [.data, .pinned] true (true, "d1ca3d26d621f152c3245100f807af32622d04d8d329faae4663d065b698daac") false over (fun _ h => by cases h) (by kernel_rfl) (fun _ h => by cases h) fnMirrors_row_tie rfl ⟨rfl, rfl⟩ (by kernel_rfl) rfl
    (fun f fn hf hfn => by
      obtain rfl : f = 4 := Option.some.inj ((show Tryd.prog.funcNamed "loop.example/g00899/laws.FnMirrors" = some 4 by kernel_rfl).symm.trans hf) |>.symm
      obtain rfl : fn = Tryd.f4 := (Option.some.inj (Tryd.func4.symm.trans hfn)).symm
      exact ⟨by kernel_rfl, fun j t ht => by
        rw [Tryd.params4] at ht
        have hm : t ∈ [22, 22] := by simpa using Array.mem_of_getElem? ht
        have hall : ([22, 22].all fun u => !Tryd.prog.wantsStandIn u) = true := by kernel_rfl
        exact (show Tryd.prog.wantsStandIn t = false by simpa using List.all_eq_true.1 hall t hm)⟩)
    (by kernel_rfl)
end Go.Proofs.YtjoomndcdpkplaaDoor.fnMirrors
namespace Go.Proofs.YtjoomndcdpkplaaDoor
/-- The card, under a short name, for the claim. -/
theorem fnMirrors_holds : Rows.FnMirrorsCardSaid := fnMirrors.proved
end Go.Proofs.YtjoomndcdpkplaaDoor
#print axioms Go.Proofs.YtjoomndcdpkplaaDoor.fnMirrors_holds
