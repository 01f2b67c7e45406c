/- What is read of a file that was built from a valid cartridge. Conditions: none. -/
import Derived.Test.YtjoomndcdpkplaaDoorCRead
import Derived.Test.YtjoomndcdpkplaaDoorCBuild
namespace Go.Ab
open Go.RowKit Go.Proofs
set_option maxRecDepth 10000
set_option maxHeartbeats 4000000
set_option linter.unusedSimpArgs false
set_option linter.unusedVariables false
theorem pad8_len {t : List UInt8} (h : t.length ≤ 8) : (pad8 t).length = 8 := by
  simp only [pad8, List.length_append, blanks_len]; omega
theorem nameCh_sp {b : UInt8} (h : nameCh b) : ¬ b = 32 := by
  rintro rfl
  have e : (32 : UInt8).toNat = 32 := rfl
  unfold nameCh isUp isDig at h
  omega
theorem trim_name {t : List UInt8} (h : nameOk t) : trimR t = t := by
  rcases List.eq_nil_or_concat t with rfl | ⟨d, x, rfl⟩
  · rfl
  · simp only [List.concat_eq_append] at h ⊢
    exact trimR_ne d (nameCh_sp (h.2.2.2 x (by simp)))
theorem trim_pad {t : List UInt8} (h : nameOk t) (k : Nat) : trimR (t ++ blanks k) = t := by
  induction k with
  | zero => simp only [blanks, List.replicate_zero, List.append_nil]; exact trim_name h
  | succ k ih => rw [← blanks_succ, ← List.append_assoc, trimR_sp, ih]
theorem file_parts (t : List UInt8) (m : Int) (p : List UInt8) : cartFile t m p = cartHead m p ++ (pad8 t ++ p) := by simp only [cartFile, List.append_assoc]
theorem file_drop {t : List UInt8} {m : Int} {p : List UInt8} (h : t.length ≤ 8) : (cartFile t m p).drop 16 = p := by
  unfold cartFile
  exact List.drop_left' (by simp only [List.length_append, cartHead_len, pad8_len h])
theorem file_title {t : List UInt8} {m : Int} {p : List UInt8} (h : t.length ≤ 8) : ((cartFile t m p).drop 8).take 8 = pad8 t := by
  rw [file_parts, List.drop_left' (cartHead_len m p), List.take_left' (pad8_len h)]
theorem file_len {t : List UInt8} {m : Int} {p : List UInt8} (h : t.length ≤ 8) : (cartFile t m p).length = 16 + p.length := by
  simp only [cartFile, List.length_append, cartHead_len, pad8_len h]
theorem file_b4 (t : List UInt8) (m : Int) (p : List UInt8) : rdB (cartFile t m p) 4 = UInt8.ofNat ((p.length : Int) / 64).toNat := (rfl)
theorem file_b5 (t : List UInt8) (m : Int) (p : List UInt8) : rdB (cartFile t m p) 5 = UInt8.ofNat m.toNat := (rfl)
theorem file_sum (t : List UInt8) (m : Int) (p : List UInt8) : ((cartFile t m p).drop 6).take 2 = w16 ((sumL p % 65536 : Nat) : Int) := (rfl)
theorem file_mark (t : List UInt8) (m : Int) (p : List UInt8) : (cartFile t m p).take 4 = [67, 65, 82, 84] := (rfl)
theorem ofNat_small {n : Nat} (h : n < 256) : (UInt8.ofNat n).toNat = n := by
  rw [UInt8.toNat_ofNat']; omega
theorem cart_p {t : List UInt8} {m : Int} {p : List UInt8} (h : cartOk t m p) : ∃ n, 1 ≤ n ∧ n ≤ 16 ∧ p.length = 64 * n := by
  have h1 := h.2.2.1
  have h2 := h.2.2.2.1
  exact ⟨p.length / 64, by omega, by omega, by omega⟩
theorem readR_file {t : List UInt8} {m : Int} {p : List UInt8} (h : cartOk t m p) : readR (cartFile t m p) = .tup [.agg [.str t, .int .i64 m, .str p], .int .i64 0] := by
  have ht := h.1.2.1
  have hm := h.2.1
  obtain ⟨n, n1, n2, hn⟩ := cart_p h
  have e4 : ((p.length : Int) / 64).toNat = n := by omega
  have e5 : (((UInt8.ofNat m.toNat).toNat : Nat) : Int) = m := by rw [ofNat_small (by omega)]; omega
  have hT : rdT (cartFile t m p) = t := by unfold rdT; rw [file_title ht, pad8, trim_pad h.1]
  have hP : rdP (cartFile t m p) = p := file_drop ht
  have hok : rdOk (cartFile t m p) := by
    refine ⟨by rw [file_len ht]; omega, file_mark t m p, ?_⟩
    rw [file_len ht, file_b4, e4, ofNat_small (by omega), hn]
  have hs : rdSum (cartFile t m p) := by unfold rdSum; rw [hP]; exact (file_sum t m p).symm
  have h5 : ((rdB (cartFile t m p) 5).toNat : Int) = m := by rw [file_b5, e5]
  unfold readR
  rw [if_pos hok, hT, hP, h5, if_pos h, if_pos hs]
end Go.Ab
