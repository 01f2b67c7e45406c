/- What is told of files that something stands behind. Conditions: none. -/
import Derived.Test.YtjoomndcdpkplaaDoorCPer
import Derived.Test.YtjoomndcdpkplaaDoorCTrim
import Derived.Test.YtjoomndcdpkplaaDoorCFile
namespace Go.Ab
open Go.RowKit Go.Proofs
set_option maxRecDepth 10000
set_option maxHeartbeats 4000000
set_option linter.unusedSimpArgs false
set_option linter.unusedVariables false
theorem dm_file {t : List UInt8} {m : Int} {p : List UInt8} (h : cartOk t m p) (r : List UInt8) : dmN (cartFile t m p ++ r) = (cartFile t m p).length := by
  obtain ⟨n, n1, n2, hn⟩ := cart_p h
  have hl := file_len (t := t) (m := m) (p := p) h.1.2.1
  unfold dmN
  rw [rdB_app (by omega), file_b4, ofNat_small (by omega), hl]
  omega
theorem read_behind {t : List UInt8} {m : Int} {p : List UInt8} (h : cartOk t m p) (r : List UInt8) : readR ((cartFile t m p ++ r).take (dmN (cartFile t m p ++ r))) = .tup [.agg [.str t, .int .i64 m, .str p], .int .i64 0] := by
  rw [dm_file h, List.take_left' rfl, readR_file h]
theorem dump_behind {t : List UInt8} {m : Int} {p : List UInt8} (h : cartOk t m p) (r : List UInt8) (hr : r.length ≤ 1024) : dumpR (cartFile t m p ++ r) p 0 = .tup [.str (cartFile t m p), .int .i64 (behR r p), .int .i64 0] := by
  obtain ⟨n, n1, n2, hn⟩ := cart_p h
  have hl := file_len (t := t) (m := m) (p := p) h.1.2.1
  have hok : dmOk (cartFile t m p ++ r) := by
    refine ⟨?_, ?_, ?_⟩
    · rw [List.length_append]; omega
    · rw [List.length_append]; omega
    · rw [dm_file h, List.length_append]; omega
  unfold dumpR
  rw [if_pos hok, if_pos rfl, dm_file h, List.take_left' rfl, List.drop_left' rfl]
theorem beh_same {p : List UInt8} (h : p ≠ []) : behR p p = 1 ∨ behR p p = 2 := by
  unfold behR
  rw [if_neg h]
  by_cases c : fillTo p p.length
  · rw [if_pos c]; exact .inl rfl
  · rw [if_neg c, if_pos (show mirTo p p p.length from fun i hi => by rw [Nat.mod_eq_of_lt hi])]; exact .inr rfl
theorem beh_fill (p : List UInt8) : behR [255, 255, 255] p = 1 := by
  unfold behR
  rw [if_neg (by simp), if_pos]
  intro i hi
  have : i = 0 ∨ i = 1 ∨ i = 2 := by simp at hi; omega
  rcases this with rfl | rfl | rfl <;> rfl
theorem beh_none (p : List UInt8) : behR [] p = 0 := by unfold behR; rw [if_pos rfl]
theorem mir_three {l : List UInt8} (h : l ≠ []) (hl : l.length ≤ 100) : mirR l (3 * (l.length : Int)) = .tup [.str (Go.Lib.repeatL l 3), .int .i64 0] := by
  have hpos : 0 < l.length := List.length_pos_iff.2 h
  unfold mirR
  rw [if_neg h, if_pos ⟨by omega, Int.mul_emod_left _ _⟩]
  congr 4
  rw [show (3 * (l.length : Int)).toNat = 3 * l.length by omega]
  exact Nat.mul_div_cancel _ hpos
theorem mir_per {l : List UInt8} {N : Nat} (h : isPer l N) (hl : l.length ≤ 100) : mirR (l.take N) (l.length : Int) = .tup [.str l, .int .i64 0] := by
  obtain ⟨h1, h2, h3, h4⟩ := h
  have ht : (l.take N).length = N := by simp only [List.length_take]; omega
  have hne : l.take N ≠ [] := fun e => by rw [e] at ht; simp at ht; omega
  unfold mirR
  rw [if_neg hne, if_pos ⟨by omega, by rw [ht]; have := h3.1; omega⟩, ht, Int.toNat_natCast, rep_per ⟨h1, h2, h3, h4⟩]
end Go.Ab
