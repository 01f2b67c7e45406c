/- General facts on lists in contracts. Conditions: none. -/
import Derived.Test.YtjoomndcdpkplaaDoorCName
namespace Go.Ab
open Go.RowKit Go.Proofs
set_option maxRecDepth 10000
set_option maxHeartbeats 4000000
set_option linter.unusedSimpArgs false
set_option linter.unusedVariables false
theorem all_map {α : Type} {f : α → AV} {P : α → Prop} : ∀ {xs : List AV}, (∀ x ∈ xs, ∃ a, x = f a ∧ P a) → ∃ ys : List α, xs = ys.map f ∧ ∀ a ∈ ys, P a
  | [], _ => ⟨[], rfl, by simp⟩
  | x :: xs, h => by
    obtain ⟨a, rfl, ha⟩ := h x (by simp)
    obtain ⟨ys, rfl, hs⟩ := all_map (xs := xs) fun y hy => h y (by simp [hy])
    exact ⟨a :: ys, rfl, by simp only [List.mem_cons, forall_eq_or_imp]; exact ⟨ha, hs⟩⟩
theorem get_part {α : Type} {f : α → AV} {z : AV} {L : List α} {i : Nat} (h : i < L.length) : ((L.take i).map f ++ List.replicate (L.length - i) z)[i]? = some z := by
  have hl : ((L.take i).map f).length = i := by rw [List.length_map, List.length_take]; omega
  rw [List.getElem?_append_right (by omega), hl, List.getElem?_replicate, if_pos (by omega)]
theorem set_part {α : Type} {f : α → AV} {z : AV} {L : List α} {i : Nat} (h : i < L.length) : ((L.take i).map f ++ List.replicate (L.length - i) z).set i (f L[i]) = (L.take (i + 1)).map f ++ List.replicate (L.length - (i + 1)) z := by
  have hl : ((L.take i).map f).length = i := by rw [List.length_map, List.length_take]; omega
  have e : L.length - i = (L.length - (i + 1)) + 1 := by omega
  rw [List.set_append_right _ _ (by omega), hl, Nat.sub_self, e, List.replicate_succ, List.set_cons_zero, List.take_add_one, List.getElem?_eq_getElem h]
  simp only [Option.toList_some, List.map_append, List.map_cons, List.map_nil, List.append_assoc, List.cons_append, List.nil_append]
theorem get_map {α : Type} {f : α → AV} {L : List α} {i : Nat} (h : i < L.length) : (L.map f)[i]? = some (f L[i]) := by simp [List.getElem?_eq_getElem h]
theorem dl_data {f : AV → Option AV} {xs : List AV} (h : ∀ x ∈ xs, isD x = true) : dl f xs = some xs := by
  unfold dl; rw [if_pos (List.all_eq_true.2 h)]
theorem own_map {α : Type} {f : α → AV} {L : List α} {H : Heap} {id g n sz : Nat} (hB : H id = some ⟨sz, L.map f, g, true⟩) (hn : n = L.length) (hf : ∀ a, isD (f a) = true) : RDs H [.ref id g 0 n] [.own sz (L.map f)] := by
  subst hn
  refine RDs_1 (some id) (RD1_own hB (by simp) ?_)
  rw [List.drop_zero, List.take_of_length_le (by simp)]
  exact dl_data fun x hx => by
    obtain ⟨a, _, rfl⟩ := List.mem_map.1 hx
    exact hf a
def copB (b : Option Blk) (n id g off len : Nat) (src : List AV) : Option Out :=
  match b with
  | some B => if B.gen = g ∧ B.own = true ∧ B.sz = n ∧ off + len ≤ B.els.length then
      some (.wr (.int .i64 (min src.length len : Nat)) id ⟨n, B.els.take off ++ src.take (min src.length len) ++ B.els.drop (off + min src.length len), g, true⟩) else none
  | none => none
def copS (o : Option (List AV)) (b : Option Blk) (n id g off len : Nat) : Option Out :=
  match o with
  | some src => copB b n id g off len src
  | none => none
def copN (n : Option Nat) (H : Heap) (id g off len : Nat) (x : AV) : Option Out :=
  match n with
  | some n => copS (srcEls H n x) (H id) n id g off len
  | none => none
def copK (P : Program) (k : TK) (H : Heap) (id g off len : Nat) (x : AV) : Option Out :=
  match k with
  | .slice e => copN (csz P e) H id g off len x
  | _ => none
theorem copyA_K {P : Program} {t : TypeId} {H : Heap} {id g off len : Nat} {x : AV} : copyA P t H (.ref id g off len) x = copK P (tk P t) H id g off len x := by
  unfold copyA copK copN copS copB; rfl
theorem copK_slice {P : Program} {e : TypeId} {H : Heap} {id g off len : Nat} {x : AV} : copK P (.slice e) H id g off len x = copN (csz P e) H id g off len x := (rfl)
theorem copN_some {n : Nat} {H : Heap} {id g off len : Nat} {x : AV} : copN (some n) H id g off len x = copS (srcEls H n x) (H id) n id g off len := (rfl)
theorem copS_some {o : List AV} {b : Option Blk} {n id g off len : Nat} : copS (some o) b n id g off len = copB b n id g off len o := (rfl)
theorem copB_some {sz : Nat} {els : List AV} {g' n id g off len : Nat} {src : List AV} : copB (some ⟨sz, els, g', true⟩) n id g off len src = if g' = g ∧ sz = n ∧ off + len ≤ els.length then
      some (.wr (.int .i64 (min src.length len : Nat)) id ⟨n, els.take off ++ src.take (min src.length len) ++ els.drop (off + min src.length len), g, true⟩) else none := by simp [copB]
attribute [go_sem] copyA_K copK_slice copN_some copS_some copB_some
def szR (c : Nat) (n : Int) : Int := if (c : Int) ≤ n then n - c else -1
theorem szR_le (c : Nat) {n : Int} (h : n ≤ 1048576) : szR c n ≤ 1048576 := by unfold szR; split <;> omega
def csum {α : Type} (f : α → Nat) (l : List α) : Nat := (l.map f).sum
theorem csum_succ {α : Type} (f : α → Nat) {l : List α} {i : Nat} (h : i < l.length) : csum f (l.take (i + 1)) = csum f (l.take i) + f l[i] := by
  simp only [csum, List.take_add_one, List.getElem?_eq_getElem h, Option.toList_some, List.map_append, List.map_cons, List.map_nil, List.sum_append, List.sum_cons, List.sum_nil, Nat.add_zero]
theorem csum_le {α : Type} (f : α → Nat) : ∀ (l : List α) (i : Nat), csum f (l.take i) ≤ csum f l
  | [], i => by simp [csum]
  | x :: l, 0 => by simp [csum]
  | x :: l, i + 1 => by
    have := csum_le f l i
    simp only [csum, List.take_succ_cons, List.map_cons, List.sum_cons] at this ⊢
    omega
theorem csum_mem {α : Type} (f : α → Nat) : ∀ {l : List α} {x : α}, x ∈ l → f x ≤ csum f l
  | y :: l, x, h => by
    simp only [csum, List.map_cons, List.sum_cons]
    rcases List.mem_cons.1 h with rfl | h
    · omega
    · have := csum_mem f h
      unfold csum at this
      omega
theorem take_step {α : Type} {hs ks : List α} {i : Nat} (h1 : i < hs.length) (h2 : i < ks.length) (ht : hs.take i = ks.take i) (he : hs[i] = ks[i]) : hs.take (i + 1) = ks.take (i + 1) := by
  rw [List.take_add_one, List.take_add_one, ht, List.getElem?_eq_getElem h1, List.getElem?_eq_getElem h2, he]
theorem own_mapC {α : Type} {f : α → AV} {L : List α} {H : Heap} {id g n sz : Nat} (hB : H id = some ⟨sz, L.map f, g, true⟩) (hn : n = L.length) (hf : ∀ a, isD (f a) = true) : RDc H (some id) (.ref id g 0 n) (.own sz (L.map f)) := by
  subst hn
  refine RDc_own hB (by simp) ?_
  rw [List.drop_zero, List.take_of_length_le (by simp)]
  exact dl_data fun x hx => by
    obtain ⟨a, _, rfl⟩ := List.mem_map.1 hx
    exact hf a
theorem frz_none {H : Heap} {j : Nat} : frz none H j = (H j).map fun B => { B with own := false } := by simp [frz]
theorem RDs_aggR {H : Heap} {cs ds : List AV} (h : dval true (frz none H) (.agg cs) = some (.agg ds)) : RDs H [.agg cs] [.agg ds] := RDs_1 none (.inl ⟨h, rfl⟩)
theorem RDs_aggRi {H : Heap} {cs ds : List AV} {k : IntKind} {n m : Int} (h : dval true (frz none H) (.agg cs) = some (.agg ds)) (e : n = m) : RDs H [.agg cs, .int k n] [.agg ds, .int k m] := RDs_2 none (.inl ⟨h, rfl⟩) (RD1_int e)
theorem RDs_aggRb {H : Heap} {cs ds : List AV} {n m : Bool} (h : dval true (frz none H) (.agg cs) = some (.agg ds)) (e : n = m) : RDs H [.agg cs, .bool n] [.agg ds, .bool m] := RDs_2 none (.inl ⟨h, rfl⟩) (RD1_bool e)
theorem dl_map {α : Type} {g : AV → Option AV} {f : α → AV} {L : List α} (hf : ∀ a, isD (f a) = true) : dl g (L.map f) = some (L.map f) := dl_data fun x hx => by
  obtain ⟨a, _, rfl⟩ := List.mem_map.1 hx
  exact hf a
theorem all_map_isD {α : Type} {f : α → AV} {L : List α} (hf : ∀ a, isD (f a) = true) : (L.map f).all isD = true := List.all_eq_true.2 fun x hx => by
  obtain ⟨a, _, rfl⟩ := List.mem_map.1 hx
  exact hf a
theorem bytesA_len (l : List UInt8) : (bytesA l).length = l.length := by simp [bytesA]
theorem bytesA_take (l : List UInt8) : (bytesA l).take l.length = bytesA l := List.take_of_length_le (by simp [bytesA])
theorem bytesA_one (l : List UInt8) (b : UInt8) : bytesA l ++ [.int .u8 (b.toNat : Int)] = bytesA (l ++ [b]) := by simp [bytesA]
theorem bytesA_app (a b : List UInt8) : bytesA a ++ bytesA b = bytesA (a ++ b) := by simp [bytesA]
theorem bytesA_nil : bytesA [] = [] := (rfl)
theorem ff_imp {p : Prop} : (False → p) = True := propext ⟨fun _ => trivial, fun _ h => h.elim⟩
attribute [go_sem] ff_imp all_map_isD bytesA_len bytesA_take unbytes_bytes
end Go.Ab
