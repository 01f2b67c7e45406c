/- An abstract machine for the compiled code, and the proof that it is sound: what it shows of a function's body holds of the model's runs (part 1). Conditions: none. -/
import Derived.Orders
import Derived.Below
import Derived.Laws.Append
import Derived.Laws.IdiomCopy
import Derived.Laws.StructEq
import Derived.Laws.Small
import Derived.Lib.ConvBytes
import Derived.Lib.AppendStr
import GoSem.Dispatch
import Derived.Laws.BytesString
set_option linter.unusedVariables false
set_option linter.unusedSimpArgs false
/- The abstract values, the abstract heap, and how they stand to a world of the model. -/
namespace Go.Ab
open Go.RowKit

/-- Abstract values. 'lst': a slice that is only read; 'ref': a slice of our own block; 'dptr': a pointer to cells that are only read; 'own': a result: a slice that is handed over with its block. -/
inductive AV where
  | int (k : IntKind) (n : Int)
  | bool (b : Bool)
  | str (l : List UInt8)
  | agg (cs : List AV)
  | tup (vs : List AV)
  | nil
  | lst (xs : List AV)
  | ref (id g off len : Nat)
  | ptr (id g i off : Nat)
  | dptr (cs : List AV)
  | own (sz : Nat) (xs : List AV)
  | func (f : FuncId) (caps : List AV)
  | undef
  deriving Inhabited

def AV.cells : AV → List AV
  | .agg cs => cs
  | v => [v]

def AV.isCell : AV → Bool
  | .agg _ | .tup _ | .own .. | .undef => false
  | _ => true

def flat (xs : List AV) : List AV := xs.flatMap AV.cells

/-- A value of n cells. -/
def AV.fits (n : Nat) (v : AV) : Bool := v.cells.length == n && v.cells.all AV.isCell

structure Loc where
  blk : Nat
  base : Nat
  cap : Nat

structure Blk where
  sz : Nat
  els : List AV
  gen : Nat := 0
  own : Bool := true

abbrev Heap := Nat → Option Blk
abbrev Plc := Nat → Option Loc

/-- x is what v reads as, from blocks of A alone. -/
inductive DR (w : World) (A : Nat → Prop) : AV → Value → Prop
  | int (k : IntKind) (n : Int) : DR w A (.int k n) (.int k n)
  | bool (b : Bool) : DR w A (.bool b) (.bool b)
  | str (s : ByteArray) (l : List UInt8) : s.data.toList = l → DR w A (.str l) (.string s)
  | agg (cs : List AV) (vs : Array Value) : cs.length = vs.size → (∀ (k : Nat) (c : AV) (v : Value), cs[k]? = some c → vs[k]? = some v → DR w A c v) → DR w A (.agg cs) (.agg vs)
  | tup (cs : List AV) (vs : Array Value) : cs.length = vs.size → (∀ (k : Nat) (c : AV) (v : Value), cs[k]? = some c → vs[k]? = some v → DR w A c v) → DR w A (.tup cs) (.tuple vs)
  | nil (base : Option Addr) : DR w A .nil (.slice base 0 0)
  | lst0 (base : Option Addr) (cap : Nat) : DR w A (.lst []) (.slice base 0 cap)
  | lst (sz : Nat) (xs : List AV) (a : Addr) (len cap : Nat) (vals : Nat → Value) : len = xs.length → len ≤ cap → (∀ x ∈ xs, x.fits sz = true) →
      (∀ k, k < (flat xs).length → A a.block ∧ w.cell? (a.add k) = some (vals k)) → (∀ (k : Nat) (c : AV), (flat xs)[k]? = some c → DR w A c (vals k)) → DR w A (.lst xs) (.slice (some a) len cap)
  | dptr (cs : List AV) (a : Addr) (vals : Nat → Value) : (∀ c ∈ cs, c.isCell = true) → (∀ k, k < cs.length → A a.block ∧ w.cell? (a.add k) = some (vals k)) →
      (∀ (k : Nat) (c : AV), cs[k]? = some c → DR w A c (vals k)) → DR w A (.dptr cs) (.pointer (some a))
  | func (f : FuncId) (caps : List AV) (vs : Array Value) : caps.length = vs.size → (∀ (k : Nat) (c : AV) (v : Value), caps[k]? = some c → vs[k]? = some v → DR w A c v) → DR w A (.func f caps) (.func (.func f) #[] vs)
  | undef (v : Value) : DR w A .undef v

theorem DR.mono {w w' : World} {A A' : Nat → Prop} (h : ∀ b, A b → A' b ∧ w'.heap[b]? = w.heap[b]?) {x : AV} {v : Value} (hd : DR w A x v) : DR w' A' x v := by
  have hc : ∀ (a : Addr) k, A a.block → w'.cell? (a.add k) = w.cell? (a.add k) := by
    intro a k ha
    refine World.cell?_of_block ?_
    have hb : (a.add k).block = a.block := by unfold Addr.add; split <;> rfl
    rw [hb]; exact (h _ ha).2
  induction hd with
  | int => exact .int _ _
  | bool => exact .bool _
  | str s l e => exact .str s l e
  | agg cs vs e _ ih => exact .agg cs vs e ih
  | tup cs vs e _ ih => exact .tup cs vs e ih
  | nil => exact .nil _
  | lst0 => exact .lst0 _ _
  | lst sz xs a len cap vals e1 e2 e3 e4 _ ih => exact .lst sz xs a len cap vals e1 e2 e3 (fun k hk => ⟨(h _ (e4 k hk).1).1, (hc a k (e4 k hk).1).trans (e4 k hk).2⟩) ih
  | dptr cs a vals e1 e2 _ ih => exact .dptr cs a vals e1 (fun k hk => ⟨(h _ (e2 k hk).1).1, (hc a k (e2 k hk).1).trans (e2 k hk).2⟩) ih
  | func f caps vs e _ ih => exact .func f caps vs e ih
  | undef => exact .undef _

/-- As DR, but what is our own is there, too. What an elder alias of a grown slice holds is not told. -/
inductive VR (w : World) (ι : Plc) (H : Heap) (A : Nat → Prop) : AV → Value → Prop
  | data (x : AV) (v : Value) : DR w A x v → VR w ι H A x v
  | agg (cs : List AV) (vs : Array Value) : cs.length = vs.size → (∀ (k : Nat) (c : AV) (v : Value), cs[k]? = some c → vs[k]? = some v → VR w ι H A c v) → VR w ι H A (.agg cs) (.agg vs)
  | tup (cs : List AV) (vs : Array Value) : cs.length = vs.size → (∀ (k : Nat) (c : AV) (v : Value), cs[k]? = some c → vs[k]? = some v → VR w ι H A c v) → VR w ι H A (.tup cs) (.tuple vs)
  | ref (id g off len o cap : Nat) (B : Blk) (L : Loc) : H id = some B → B.gen = g → ι id = some L → off + len ≤ B.els.length → off + cap ≤ L.cap → len ≤ cap → (cap = 0 ∨ o = L.base + off * B.sz) →
      VR w ι H A (.ref id g off len) (.slice (some ⟨L.blk, o, none⟩) len cap)
  | refNil (id g : Nat) (B : Blk) (base : Option Addr) : H id = some B → B.gen = g → B.els = [] → VR w ι H A (.ref id g 0 0) (.slice base 0 0)
  | refDead (id g off len : Nat) (B : Blk) (v : Value) : H id = some B → g < B.gen → v.oneCell' = true → VR w ι H A (.ref id g off len) v
  | ptr (id g i off : Nat) (B : Blk) (L : Loc) : H id = some B → B.gen = g → ι id = some L → VR w ι H A (.ptr id g i off) (.pointer (some ⟨L.blk, L.base + i * B.sz + off, none⟩))
  | ptrDead (id g i off : Nat) (B : Blk) (v : Value) : H id = some B → g < B.gen → v.oneCell' = true → VR w ι H A (.ptr id g i off) v
  | func (f : FuncId) (caps : List AV) (vs : Array Value) : caps.length = vs.size → (∀ (k : Nat) (c : AV) (v : Value), caps[k]? = some c → vs[k]? = some v → VR w ι H A c v) → VR w ι H A (.func f caps) (.func (.func f) #[] vs)

/-- Block b is no block of our own that may be written. -/
def NotOwn (ι : Plc) (H : Heap) (b : Nat) : Prop := ∀ id B L, H id = some B → ι id = some L → B.own = true → b ≠ L.blk

def Al (A0 : Nat → Prop) (B0 : Nat) (w : World) (ι : Plc) (H : Heap) (b : Nat) : Prop := (A0 b ∨ B0 ≤ b) ∧ b < w.heap.size ∧ NotOwn ι H b

/-- From one state to a later one. -/
structure Ev (w : World) (ι : Plc) (H : Heap) (w' : World) (ι' : Plc) (H' : Heap) : Prop where
  size : w.heap.size ≤ w'.heap.size
  keep : ∀ b, b < w.heap.size → NotOwn ι H b → w'.heap[b]? = w.heap[b]?
  own : ∀ b, b < w.heap.size → NotOwn ι H b → NotOwn ι' H' b
  ids : ∀ id B, H id = some B → ∃ B', H' id = some B' ∧ B.gen ≤ B'.gen ∧ (B'.gen = B.gen → B'.sz = B.sz ∧ B.els.length ≤ B'.els.length ∧ (∀ L, ι id = some L → ι' id = some L) ∧ (B.els = [] → B'.els = []))

theorem Ev.refl (w : World) (ι : Plc) (H : Heap) : Ev w ι H w ι H :=
  ⟨Nat.le_refl _, fun _ _ _ => rfl, fun _ _ h => h, fun _ B h => ⟨B, h, Nat.le_refl _, fun _ => ⟨rfl, Nat.le_refl _, fun _ h => h, fun h => h⟩⟩⟩

theorem Ev.trans {w1 w2 w3 : World} {ι1 ι2 ι3 : Plc} {H1 H2 H3 : Heap} (h : Ev w1 ι1 H1 w2 ι2 H2) (k : Ev w2 ι2 H2 w3 ι3 H3) : Ev w1 ι1 H1 w3 ι3 H3 := by
  refine ⟨Nat.le_trans h.size k.size, fun b hb hn => ?_, fun b hb hn => k.own b (Nat.lt_of_lt_of_le hb h.size) (h.own b hb hn), fun id B hB => ?_⟩
  · rw [k.keep b (Nat.lt_of_lt_of_le hb h.size) (h.own b hb hn), h.keep b hb hn]
  · obtain ⟨B2, h2, g2, r2⟩ := h.ids id B hB
    obtain ⟨B3, h3, g3, r3⟩ := k.ids id B2 h2
    refine ⟨B3, h3, Nat.le_trans g2 g3, fun e => ?_⟩
    obtain ⟨a1, a2, a3, a4⟩ := r2 (by omega)
    obtain ⟨b1, b2, b3, b4⟩ := r3 (by omega)
    exact ⟨b1.trans a1, Nat.le_trans a2 b2, fun L hL => b3 L (a3 L hL), fun e => b4 (a4 e)⟩

theorem Ev.al {w w' : World} {ι ι' : Plc} {H H' : Heap} {A0 : Nat → Prop} {B0 : Nat} (h : Ev w ι H w' ι' H') {b : Nat} (hb : Al A0 B0 w ι H b) : Al A0 B0 w' ι' H' b :=
  ⟨hb.1, Nat.lt_of_lt_of_le hb.2.1 h.size, h.own b hb.2.1 hb.2.2⟩

theorem DR.ev {w w' : World} {ι ι' : Plc} {H H' : Heap} {A0 : Nat → Prop} {B0 : Nat} (h : Ev w ι H w' ι' H') {x : AV} {v : Value} (hd : DR w (Al A0 B0 w ι H) x v) : DR w' (Al A0 B0 w' ι' H') x v :=
  hd.mono fun b hb => ⟨h.al hb, h.keep b hb.2.1 hb.2.2⟩

theorem VR.ev {w w' : World} {ι ι' : Plc} {H H' : Heap} {A0 : Nat → Prop} {B0 : Nat} (h : Ev w ι H w' ι' H') {x : AV} {v : Value} (hd : VR w ι H (Al A0 B0 w ι H) x v) : VR w' ι' H' (Al A0 B0 w' ι' H') x v := by
  induction hd with
  | data x v hx => exact .data _ _ (hx.ev h)
  | agg cs vs e _ ih => exact .agg cs vs e ih
  | tup cs vs e _ ih => exact .tup cs vs e ih
  | func f cs vs e _ ih => exact .func f cs vs e ih
  | ref id g off len o cap B L hB hg hL h1 h2 h3 h4 =>
    obtain ⟨B', hB', hge, hr⟩ := h.ids id B hB
    by_cases e : B'.gen = B.gen
    · obtain ⟨e1, e2, e3, _⟩ := hr e
      exact .ref id g off len o cap B' L hB' (e.trans hg) (e3 L hL) (by omega) h2 h3 (by rw [e1]; exact h4)
    · exact .refDead id g off len B' _ hB' (by omega) rfl
  | refNil id g B base hB hg he =>
    obtain ⟨B', hB', hge, hr⟩ := h.ids id B hB
    by_cases e : B'.gen = B.gen
    · exact .refNil id g B' base hB' (e.trans hg) ((hr e).2.2.2 he)
    · exact .refDead id g 0 0 B' _ hB' (by omega) rfl
  | refDead id g off len B v hB hg h1 =>
    obtain ⟨B', hB', hge, _⟩ := h.ids id B hB
    exact .refDead id g off len B' v hB' (by omega) h1
  | ptr id g i off B L hB hg hL =>
    obtain ⟨B', hB', hge, hr⟩ := h.ids id B hB
    by_cases e : B'.gen = B.gen
    · obtain ⟨e1, _, e3, _⟩ := hr e
      rw [← e1]
      exact .ptr id g i off B' L hB' (e.trans hg) (e3 L hL)
    · exact .ptrDead id g i off B' _ hB' (by omega) rfl
  | ptrDead id g i off B v hB hg h1 =>
    obtain ⟨B', hB', hge, _⟩ := h.ids id B hB
    exact .ptrDead id g i off B' v hB' (by omega) h1

/-- A block that our own heap tells of, as it lies in the world. -/
structure BlkR (w : World) (ι : Plc) (H : Heap) (A : Nat → Prop) (B0 : Nat) (B : Blk) (L : Loc) : Prop where
  row : ∃ c e fr, w.heap[L.blk]? = some (.cells c e fr) ∧ L.base + L.cap * B.sz ≤ c.size ∧ ∀ k x, (flat B.els)[k]? = some x → ∃ v, c[L.base + k]? = some v ∧ VR w ι H A x v
  low : B0 ≤ L.blk
  len : B.els.length ≤ L.cap
  fit : ∀ x ∈ B.els, x.fits B.sz = true
  free : B.own = true → B0 ≤ L.blk ∧ ∀ o, L.base ≤ o → o < L.base + L.cap * B.sz → w.frozen? ⟨L.blk, o, none⟩ = false

structure HR (w : World) (ι : Plc) (H : Heap) (A : Nat → Prop) (B0 : Nat) : Prop where
  blk : ∀ id B L, H id = some B → ι id = some L → BlkR w ι H A B0 B L
  sep : ∀ i j B C L M, H i = some B → ι i = some L → H j = some C → ι j = some M → i ≠ j → B.own = true → L.blk ≠ M.blk

theorem add_block (a : Addr) (k : Nat) : (a.add k).block = a.block := by unfold Addr.add; split <;> rfl
theorem add_add (a : Addr) (i j : Nat) : (a.add i).add j = a.add (i + j) := by
  unfold Addr.add
  by_cases hi : i = 0
  · subst hi; simp
  · by_cases hj : j = 0
    · subst hj; simp
    · simp [hi, hj, Nat.add_assoc]
theorem add_mk (b o k : Nat) : (⟨b, o, none⟩ : Addr).add k = ⟨b, o + k, none⟩ := by
  unfold Addr.add; split <;> simp_all

theorem flat_length {sz : Nat} {xs : List AV} (h : ∀ x ∈ xs, x.fits sz = true) : (flat xs).length = xs.length * sz := by
  induction xs with
  | nil => simp [flat]
  | cons x xs ih =>
    have hx := h x (by simp)
    have ih := ih fun y hy => h y (by simp [hy])
    simp only [AV.fits, Bool.and_eq_true, beq_iff_eq] at hx
    simp only [flat, List.flatMap_cons, List.length_append, List.length_cons] at ih ⊢
    rw [hx.1, ih, Nat.add_mul]; omega

theorem flat_getElem? {sz : Nat} {xs : List AV} (h : ∀ x ∈ xs, x.fits sz = true) {i : Nat} {x : AV} (hi : xs[i]? = some x) {k : Nat} {c : AV} (hk : x.cells[k]? = some c) :
    (flat xs)[i * sz + k]? = some c := by
  induction xs generalizing i with
  | nil => simp at hi
  | cons y xs ih =>
    have hy := h y (by simp)
    simp only [AV.fits, Bool.and_eq_true, beq_iff_eq] at hy
    cases i with
    | zero =>
      simp at hi; subst hi
      have hlt : k < y.cells.length := (List.getElem?_eq_some_iff.1 hk).1
      simp only [flat, List.flatMap_cons, Nat.zero_mul, Nat.zero_add]
      rw [List.getElem?_append_left hlt]; exact hk
    | succ i =>
      simp at hi
      have := ih (fun z hz => h z (by simp [hz])) hi
      simp only [flat, List.flatMap_cons] at this ⊢
      rw [show (i + 1) * sz + k = y.cells.length + (i * sz + k) from by rw [hy.1, Nat.add_mul]; omega, List.getElem?_append_right (by omega), show y.cells.length + (i * sz + k) - y.cells.length = i * sz + k from by omega]
      exact this

theorem flat_append (xs ys : List AV) : flat (xs ++ ys) = flat xs ++ flat ys := by simp [flat]

theorem fits_cells {n : Nat} {v : AV} (h : v.fits n = true) : v.cells.length = n ∧ ∀ c ∈ v.cells, c.isCell = true := by
  simp only [AV.fits, Bool.and_eq_true, beq_iff_eq, List.all_eq_true] at h; exact h

theorem DR.one {w : World} {A : Nat → Prop} {x : AV} {v : Value} (h : DR w A x v) (hc : x.isCell = true) : v.oneCell' = true := by
  cases h <;> first | rfl | (simp [AV.isCell] at hc)
theorem VR.one {w : World} {ι : Plc} {H : Heap} {A : Nat → Prop} {x : AV} {v : Value} (h : VR w ι H A x v) (hc : x.isCell = true) : v.oneCell' = true := by
  cases h with
  | data _ _ h => exact h.one hc
  | agg => simp [AV.isCell] at hc
  | tup => simp [AV.isCell] at hc
  | ref => rfl
  | refNil => rfl
  | refDead id g off len B _ hB hg h1 => exact h1
  | ptr => rfl
  | ptrDead id g off len B _ hB hg h1 => exact h1
  | func => rfl
end Go.Ab

/- The abstract operations: what they give on abstract values, and which block they make or turn. -/
namespace Go.Ab
open Go.RowKit

def ofCell : Value → AV
  | .int k n => .int k n
  | .bool b => .bool b
  | .string s => .str s.data.toList
  | .slice _ 0 0 => .nil
  | _ => .undef
def ofConst : Value → AV
  | .agg cs => .agg (cs.toList.map ofCell)
  | v => ofCell v

def upd {α : Type} (τ : Nat → α) (t : Nat) (v : α) : Nat → α := fun m => if m = t then v else τ m
theorem upd_same {α : Type} (τ : Nat → α) (t : Nat) (v : α) : upd τ t v t = v := by simp [upd]
theorem upd_ne {α : Type} (τ : Nat → α) (t : Nat) (v : α) (m : Nat) (h : m ≠ t) : upd τ t v m = τ m := by simp [upd, h]
theorem upd_apply {α : Type} (τ : Nat → α) (t : Nat) (v : α) (m : Nat) : upd τ t v m = if m = t then v else τ m := rfl

def opnd (τ : Nat → AV) : Operand → AV
  | .tmp t => τ t
  | .const v => ofConst v
  | .func f => .func f []
  | .global _ => .undef

/-- What is asked of a type, in short. -/
inductive TK where
  | none | bool | int (k : IntKind) | str | slice (e : TypeId) | arr (n : Nat) (e : TypeId) | struct (fs : List (TypeId × Nat)) | ptr (e : TypeId) | other
def tk (P : Program) (t : TypeId) : TK :=
  match P.underlying t with
  | Option.none => .none
  | some .bool => .bool
  | some (.int k) => .int k
  | some .string => .str
  | some (.slice e) => .slice e
  | some (.array n e) => .arr n e
  | some (.struct fs) => .struct (fs.toList.map fun f => (f.type, f.offset))
  | some (.pointer e) => .ptr e
  | some _ => .other
def csz (P : Program) (t : TypeId) : Option Nat := (P.info? t).map (·.size)
def bsz (P : Program) (t : TypeId) : Option Nat := (P.info? t).map (·.bytes)
def zro (P : Program) (t : TypeId) : Option AV := ((P.info? t).bind (·.zero)).map ofConst
/-- A struct type whose fields are all compared, by scalars alone; or a scalar type. -/
def eqTypes (P : Program) (t : TypeId) : Bool :=
  match P.underlying t with
  | some (.struct fs) => !P.stoodInHeld t && !P.eqGuardType P.depth t && fs.toList.all fun f => f.name != "_"
  | _ => false

/-- The cells from an address on. -/
def cellsAt (H : Heap) : AV → Option (List AV)
  | .ptr id g i off =>
    match H id with
    | some B => if B.gen = g then (match B.els[i]? with
      | some el => if off ≤ el.cells.length then some (el.cells.drop off) else none
      | none => none) else none
    | none => none
  | .dptr cs => some cs
  | _ => none
def alive (H : Heap) (id g : Nat) : Bool :=
  match H id with
  | some B => B.gen == g
  | none => false
/-- The elements that a slice shows. -/
def refEls (H : Heap) (id g off len : Nat) : Option (Nat × List AV) :=
  match H id with
  | some B => if B.gen = g then (if off + len ≤ B.els.length then some (B.sz, (B.els.drop off).take len) else none) else none
  | none => none

def ngen (H : Heap) (id : Nat) : Nat := match H id with | some B => B.gen + 1 | none => 0

def aggT (P : Program) (t : TypeId) : Option Bool :=
  match tk P t with
  | .none => none
  | .arr .. | .struct _ => some true
  | _ => some false
def loadA (P : Program) (t : TypeId) (cells : List AV) : Option AV :=
  match aggT P t with
  | none => none
  | some true => match csz P t with
    | some n => if n ≤ cells.length then some (.agg (cells.take n)) else none
    | none => none
  | some false => cells[0]?
/-- A part of an aggregate's cells. -/
def partA (P : Program) (t : TypeId) (cells : List AV) (off : Nat) : Option AV := if off ≤ cells.length then loadA P t (cells.drop off) else none

def setCells (el : AV) (off : Nat) (vs : List AV) : AV :=
  match el with
  | .agg cs => .agg (cs.take off ++ vs ++ cs.drop (off + vs.length))
  | x => match vs with
    | [v] => v
    | _ => x

def intBin (op : BinOp) (k : IntKind) (a b : Int) : Option AV :=
  match op with
  | .add => some (.int k (k.wrap (a + b)))
  | .sub => some (.int k (k.wrap (a - b)))
  | .mul => some (.int k (k.wrap (a * b)))
  | .quo => if b = 0 then none else some (.int k (k.wrap (a.tdiv b)))
  | .rem => if b = 0 then none else some (.int k (a.tmod b))
  | .and => some (.int k (k.wrap (BitVec.ofInt k.bits a &&& BitVec.ofInt k.bits b).toNat))
  | .or => some (.int k (k.wrap (BitVec.ofInt k.bits a ||| BitVec.ofInt k.bits b).toNat))
  | .xor => some (.int k (k.wrap (BitVec.ofInt k.bits a ^^^ BitVec.ofInt k.bits b).toNat))
  | .andNot => some (.int k (k.wrap (BitVec.ofInt k.bits a &&& ~~~BitVec.ofInt k.bits b).toNat))
  | .eql => some (.bool (decide (a = b)))
  | .neq => some (.bool (!decide (a = b)))
  | .lss => some (.bool (decide (a < b)))
  | .leq => some (.bool (decide (a ≤ b)))
  | .gtr => some (.bool (decide (b < a)))
  | .geq => some (.bool (decide (b ≤ a)))
  | .shl | .shr => none
def shA (op : BinOp) (k : IntKind) (a b : Int) : Option AV :=
  if b < 0 then none else
  match op with
  | .shl => some (.int k (k.wrap (a * 2 ^ (min b.toNat k.bits))))
  | .shr => some (.int k (a.fdiv (2 ^ (min b.toNat k.bits))))
  | _ => none
def strBin (op : BinOp) (a b : List UInt8) : Option AV :=
  match op with
  | .add => if a.length + b.length ≤ 4611686018427387904 then some (.str (a ++ b)) else none
  | .eql => some (.bool (decide (a = b)))
  | .neq => some (.bool (!decide (a = b)))
  | .lss => some (.bool (Op.bytesLess a b))
  | .leq => some (.bool (Op.bytesLess a b || decide (a = b)))
  | .gtr => some (.bool (!(Op.bytesLess a b || decide (a = b))))
  | .geq => some (.bool (!Op.bytesLess a b))
  | _ => none
/-- Equality of two values of one scalar kind. -/
def eqCell (P : Program) (t : TypeId) (x y : AV) : Option Bool :=
  match tk P t, x, y with
  | .bool, .bool a, .bool b => some (a == b)
  | .int _, .int k a, .int k' b => if k = k' then some (decide (a = b)) else none
  | .str, .str a, .str b => some (decide (a = b))
  | _, _, _ => none
def eqFields (P : Program) : List (TypeId × Nat) → List AV → List AV → Option Bool
  | [], _, _ => some true
  | (t, o) :: fs, xs, ys =>
    match xs[o]?, ys[o]? with
    | some x, some y => match eqCell P t x y, eqFields P fs xs ys with
      | some b, some c => some (b && c)
      | _, _ => none
    | _, _ => none
def eqA (P : Program) (t : TypeId) (x y : AV) : Option Bool :=
  match x, y with
  | .agg xs, .agg ys => match tk P t with
    | .struct fs => if eqTypes P t then eqFields P fs xs ys else none
    | _ => none
  | .bool a, .bool b => match tk P t with
    | .bool => some (a == b)
    | _ => none
  | _, _ => none
def binA (P : Program) (op : BinOp) (t : TypeId) (x y : AV) : Option AV :=
  match x, y with
  | .int k a, .int k' b =>
    match op with
    | .shl => shA .shl k a b
    | .shr => shA .shr k a b
    | op => if k = k' then intBin op k a b else none
  | .str a, .str b => strBin op a b
  | x, y => match op with
    | .eql => (eqA P t x y).map .bool
    | .neq => (eqA P t x y).map fun b => .bool (!b)
    | _ => none
def unA (op : UnOp) (x : AV) : Option AV :=
  match op, x with
  | .neg, .int k n => some (.int k (k.wrap (0 - n)))
  | .xor, .int k n => some (.int k (k.wrap (BitVec.ofInt k.bits (if k.signed then -1 else k.max) ^^^ BitVec.ofInt k.bits n).toNat))
  | .not, .bool b => some (.bool !b)
  | _, _ => none

def bytesA (l : List UInt8) : List AV := l.map fun b => .int .u8 b.toNat
def unbytes : List AV → Option (List UInt8)
  | [] => some []
  | .int .u8 n :: l => (unbytes l).map fun r => UInt8.ofNat n.toNat :: r
  | _ :: _ => none

inductive Out where
  | val (v : AV)
  | new (b : Blk) (v : Nat → Nat → AV)
  | wr (v : AV) (id : Nat) (b : Blk)

/-- The elements of what is appended or copied. -/
def srcEls (H : Heap) (n : Nat) : AV → Option (List AV)
  | .nil => some []
  | .lst xs => if xs.all (·.fits n) then some xs else none
  | .ref id g off len => match refEls H id g off len with
    | some (sz, xs) => if sz = n ∨ xs = [] then some xs else none
    | none => none
  | .str l => if n = 1 then some (bytesA l) else none
  | _ => none

/-- Where the parts of a struct lie: offset and size. -/
def plc (P : Program) (t : TypeId) : Option (List (Nat × Nat)) :=
  match tk P t with
  | .struct fs => fs.mapM fun x => (csz P x.1).map fun n => (x.2, n)
  | _ => none
def plcF (P : Program) (t : TypeId) : Option (Nat → Option (Nat × Nat)) :=
  match tk P t with
  | .struct _ => (plc P t).map fun l i => l[i]?
  | .arr _ e => (csz P e).map fun s i => some (i * s, s)
  | _ => none
def fillA (pl : Nat → Option (Nat × Nat)) (cells : List AV) : List (Nat × AV) → Option (List AV)
  | [] => some cells
  | (i, v) :: r =>
    match pl i with
    | some (off, n) => if v.fits n = true ∧ off + n ≤ cells.length then fillA pl (cells.take off ++ v.cells ++ cells.drop (off + n)) r else none
    | none => none
def fillEls (n : Nat) (els : List AV) : List (Nat × AV) → Option (List AV)
  | [] => some els
  | (i, v) :: r => if v.fits n = true ∧ i < els.length then fillEls n (els.set i v) r else none

def convA (P : Program) (src dst : TypeId) (H : Heap) (x : AV) : Option Out :=
  match x with
  | .int _ n => match tk P src with
    | .int _ => match tk P dst with
      | .int k => some (.val (.int k (k.wrap n)))
      | _ => none
    | _ => none
  | .str l => match tk P src with
    | .str => match tk P dst with
      | .str => some (.val (.str l))
      | .slice e => match tk P e with
        | .int .u8 => some (.new ⟨1, bytesA l, 0, true⟩ fun id g => .ref id g 0 l.length)
        | _ => none
      | _ => none
    | _ => none
  | x => match tk P src, tk P dst with
    | .slice e, .str => match tk P e with
      | .int .u8 => match srcEls H 1 x with
        | some els => (unbytes els).map fun l => .val (.str l)
        | none => none
      | _ => none
    | _, _ => none

/-- A bound of a slice expression. -/
def bndA (ρ : Operand → AV) (d : Nat) : Option Operand → Option Int
  | none => some d
  | some x => match ρ x with
    | .int _ n => some n
    | _ => none
def sliceA (P : Program) (t : TypeId) (H : Heap) (ρ : Operand → AV) (x : AV) (lo hi mx : Option Operand) : Option AV :=
  match x with
  | .str l => match tk P t, mx with
    | .str, none => match bndA ρ 0 lo, bndA ρ l.length hi with
      | some a, some b => if 0 ≤ a ∧ a ≤ b ∧ b ≤ l.length then some (.str ((l.drop a.toNat).take (b - a).toNat)) else none
      | _, _ => none
    | _, _ => none
  | .lst xs => match tk P t, mx with
    | .slice e, none => match bndA ρ 0 lo, bndA ρ xs.length hi with
      | some a, some b => if 0 ≤ a ∧ a ≤ b ∧ b ≤ xs.length ∧ csz P e ≠ none ∧ xs.all (fun x => csz P e == some x.cells.length) then some (.lst ((xs.drop a.toNat).take (b - a).toNat)) else none
      | _, _ => none
    | .slice e, some m => match bndA ρ 0 lo, bndA ρ xs.length hi, ρ m with
      | some a, some b, .int _ c => if a = 0 ∧ b = 0 ∧ c = 0 ∧ hi ≠ none ∧ csz P e ≠ none then some .nil else none
      | _, _, _ => none
    | _, _ => none
  | .ref id g off len => match tk P t, mx with
    | .slice e, none => match refEls H id g off len, bndA ρ 0 lo, bndA ρ len hi with
      | some (sz, _), some a, some b => if 0 ≤ a ∧ a ≤ b ∧ b ≤ len ∧ csz P e = some sz then some (.ref id g (off + a.toNat) (b - a).toNat) else none
      | _, _, _ => none
    | .slice e, some m => match refEls H id g off len, bndA ρ 0 lo, bndA ρ len hi, ρ m with
      | some _, some a, some b, .int _ c => if a = 0 ∧ b = 0 ∧ c = 0 ∧ hi ≠ none ∧ csz P e ≠ none then some .nil else none
      | _, _, _, _ => none
    | _, _ => none
  | _ => none
def fieldAddrA (P : Program) (t : TypeId) (H : Heap) (x : AV) (f : Nat) : Option AV :=
  match tk P t with
  | .struct fs => match fs[f]? with
    | some (ft, off) => match csz P ft with
      | some (_ + 1) => match x with
        | .ptr id g i o => if alive H id g then some (.ptr id g i (o + off)) else none
        | .dptr cs => if off ≤ cs.length then some (.dptr (cs.drop off)) else none
        | _ => none
      | _ => none
    | none => none
  | _ => none
def indexAddrA (P : Program) (t : TypeId) (H : Heap) (x ix : AV) : Option AV :=
  match ix with
  | .int _ i =>
    match tk P t with
    | .slice e => match x with
      | .lst xs => if 0 ≤ i then (match xs[i.toNat]? with
        | some el => if csz P e = some el.cells.length then some (.dptr el.cells) else none
        | none => none) else none
      | .ref id g off len => match refEls H id g off len with
        | some (sz, _) => if 0 ≤ i ∧ i < len ∧ csz P e = some sz then some (.ptr id g (off + i.toNat) 0) else none
        | none => none
      | _ => none
    | .arr n e => if 0 ≤ i ∧ i < n then (match csz P e with
      | some sz => match x with
        | .ptr id g j o => if alive H id g then some (.ptr id g j (o + i.toNat * sz)) else none
        | .dptr cs => if i.toNat * sz ≤ cs.length then some (.dptr (cs.drop (i.toNat * sz))) else none
        | _ => none
      | none => none) else none
    | _ => none
  | _ => none
def indexA (P : Program) (t : TypeId) (x ix : AV) : Option AV :=
  match ix with
  | .int _ i =>
    match x with
    | .str l => match tk P t with
      | .str => if 0 ≤ i then (match l[i.toNat]? with
        | some b => some (.int .u8 b.toNat)
        | none => none) else none
      | _ => none
    | .agg cs => match tk P t with
      | .arr n e => match csz P e with
        | some sz => if 0 ≤ i ∧ i < n then partA P e cs (i.toNat * sz) else none
        | none => none
      | _ => none
    | _ => none
  | _ => none
def lenA (P : Program) (t : TypeId) (H : Heap) (x : AV) : Option AV :=
  match tk P t with
  | .str => match x with
    | .str l => some (.int .i64 l.length)
    | _ => none
  | .arr n _ => some (.int .i64 n)
  | .slice _ => match x with
    | .nil => some (.int .i64 0)
    | .lst xs => some (.int .i64 xs.length)
    | .ref id g off len => if (refEls H id g off len).isSome then some (.int .i64 len) else none
    | _ => none
  | _ => none
def roomOk (n bytes : Nat) : Bool := n ≤ 4611686018427387904 && n * bytes ≤ 140737488355328
def appendA (P : Program) (t : TypeId) (H : Heap) (s x : AV) : Option Out :=
  match tk P t with
  | .slice e => match csz P e, bsz P e, zro P e with
    | some n, some by_, some z => if 0 < n ∧ z.cells.length = n then (match srcEls H n x with
      | some new => match s with
        | .nil => if new = [] then some (.val .nil) else if roomOk new.length by_ then some (.new ⟨n, new, 0, true⟩ fun id g => .ref id g 0 new.length) else none
        | .ref id g off len => match H id with
          | some B => if B.gen = g ∧ B.own = true ∧ B.sz = n ∧ off + len = B.els.length ∧ roomOk (len + new.length) by_ = true then
              some (.wr (.ref id (g + 1) 0 (len + new.length)) id ⟨n, B.els.drop off ++ new, g + 1, true⟩) else none
          | none => none
        | _ => none
      | none => none) else none
    | _, _, _ => none
  | _ => none
def copyA (P : Program) (t : TypeId) (H : Heap) (d x : AV) : Option Out :=
  match tk P t with
  | .slice e => match csz P e with
    | some n => match srcEls H n x with
      | some src => match d with
        | .ref id g off len => match H id with
          | some B => if B.gen = g ∧ B.own = true ∧ B.sz = n ∧ off + len ≤ B.els.length then
              some (.wr (.int .i64 (min src.length len : Nat)) id ⟨n, B.els.take off ++ src.take (min src.length len) ++ B.els.drop (off + min src.length len), g, true⟩) else none
          | none => none
        | .nil => some (.val (.int .i64 0))
        | .lst xs => if xs = [] ∨ src = [] then some (.val (.int .i64 0)) else none
        | _ => none
      | none => none
    | none => none
  | _ => none
def minA (x y : AV) : Option AV :=
  match x, y with
  | .int k a, .int _ b => some (.int k (if b < a then b else a))
  | _, _ => none
def maxA (x y : AV) : Option AV :=
  match x, y with
  | .int k a, .int _ b => some (.int k (if b > a then b else a))
  | _, _ => none
def storeA (P : Program) (t : TypeId) (H : Heap) (a v : AV) : Option Out :=
  match a with
  | .ptr id g i off => match H id, csz P t with
    | some B, some n => if B.gen = g ∧ B.own = true then (match B.els[i]? with
      | some el => if v.fits n = true ∧ off + n ≤ el.cells.length ∧ 0 < n then some (.wr .undef id { B with els := B.els.set i (setCells el off v.cells) }) else none
      | none => none) else none
    | _, _ => none
  | _ => none
def extractA (x : AV) (i : Nat) : Option AV :=
  match x with
  | .tup vs => vs[i]?
  | _ => none
def nilCheckA (H : Heap) (x : AV) : Option AV :=
  match x with
  | .ptr id g i o => if alive H id g then some (.ptr id g i o) else none
  | .dptr cs => some (.dptr cs)
  | .func f c => some (.func f c)
  | _ => none
def makeSliceA (P : Program) (t : TypeId) (l c : AV) : Option Out :=
  match tk P t, l, c with
  | .slice e, .int kl n, .int kc m => match csz P e, bsz P e, zro P e with
    | some sz, some by_, some z => if kl = .i64 ∧ kc = .i64 ∧ 0 ≤ n ∧ n ≤ m ∧ roomOk m.toNat by_ = true ∧ z.fits sz = true ∧ 0 < sz then some (.new ⟨sz, List.replicate n.toNat z, 0, true⟩ fun id g => .ref id g 0 n.toNat) else none
    | _, _, _ => none
  | _, _, _ => none

def mkFuncA (fn : Fn) (first caps : List Operand) (ρ : Operand → AV) : Option Out :=
  match fn with
  | .func f => match first with
    | [] => some (.val (.func f (caps.map ρ)))
    | _ => none
  | _ => none
def biA (P : Program) (b : Builtin) (args : List Operand) (ts : List TypeId) (ρ : Operand → AV) (H : Heap) : Option Out :=
  match args with
  | [x] => match b, ts with
    | .len, [t] => (lenA P t H (ρ x)).map .val
    | _, _ => none
  | [x, y] => match b with
    | .append => match ts with
      | [t, t'] => match tk P t' with
        | .slice _ | .str => appendA P t H (ρ x) (ρ y)
        | _ => none
      | _ => none
    | .copy => match ts with
      | [t, _] => copyA P t H (ρ x) (ρ y)
      | _ => none
    | .min => (minA (ρ x) (ρ y)).map .val
    | .max => (maxA (ρ x) (ρ y)).map .val
    | _ => none
  | _ => none

def aop (P : Program) (o : Op) (ρ : Operand → AV) (H : Heap) : Option Out :=
  match o with
  | .move x | .assign x => some (.val (ρ x))
  | .pick c a b => match ρ c with
    | .bool t => some (.val (if t then ρ a else ρ b))
    | _ => none
  | .alloc e => match zro P e with
    | some z => if z.cells.all AV.isCell then some (.new ⟨z.cells.length, [z], 0, true⟩ fun id g => .ptr id g 0 0) else none
    | none => none
  | .box _ x => if (ρ x).cells.all AV.isCell then some (.new ⟨(ρ x).cells.length, [ρ x], 0, true⟩ fun id g => .ptr id g 0 0) else none
  | .build t parts => match zro P t with
    | some (.agg z) => match plcF P t with
      | some pl => (fillA pl z (parts.toList.map fun p => (p.1, ρ p.2))).map fun cs => .val (.agg cs)
      | none => none
    | _ => none
  | .buildSlice t len parts => match tk P t with
    | .slice e => match csz P e, zro P e with
      | some n, some z => if z.fits n = true ∧ 0 < n ∧ len * n ≤ 16777216 then (fillEls n (List.replicate len z) (parts.toList.map fun p => (p.1, ρ p.2))).map fun els => .new ⟨n, els, 0, true⟩ fun id g => .ref id g 0 len else none
      | _, _ => none
    | _ => none
  | .load t a => match cellsAt H (ρ a) with
    | some cs => (loadA P t cs).map .val
    | none => none
  | .store t a v => storeA P t H (ρ a) (ρ v)
  | .nilCheck x => (nilCheckA H (ρ x)).map .val
  | .binOp op t x y _ => (binA P op t (ρ x) (ρ y)).map .val
  | .unOp op _ x => (unA op (ρ x)).map .val
  | .convert src dst x => convA P src dst H (ρ x)
  | .makeFunc fn first caps => mkFuncA fn first.toList caps.toList ρ
  | .makeSlice t l c => makeSliceA P t (ρ l) (ρ c)
  | .slice t x lo hi mx => (sliceA P t H ρ (ρ x) lo hi mx).map .val
  | .fieldAddr t x f => (fieldAddrA P t H (ρ x) f).map .val
  | .field t x f => match tk P t, ρ x with
    | .struct fs, .agg cs => match fs[f]? with
      | some (ft, off) => (partA P ft cs off).map .val
      | none => none
    | _, _ => none
  | .indexAddr t x ix => (indexAddrA P t H (ρ x) (ρ ix)).map .val
  | .index t x ix => (indexA P t (ρ x) (ρ ix)).map .val
  | .extract x i => (extractA (ρ x) i).map .val
  | .call c => match c.callee with
    | .builtin b => biA P b c.args.toList c.argTypes.toList ρ H
    | _ => none
  | _ => none
end Go.Ab

/- Each abstract operation that makes and turns no block gives what the model's operation gives. -/
namespace Go.Ab
open Go.RowKit

section inv
variable {w : World} {ι : Plc} {H : Heap} {A : Nat → Prop}

theorem DR.const (v : Value) : DR w A (ofConst v) v := by
  have hc : ∀ v, DR w A (ofCell v) v := by
    intro v
    unfold ofCell
    split
    · exact .int _ _
    · exact .bool _
    · exact .str _ _ rfl
    · exact .nil _
    · exact .undef _
  unfold ofConst
  split
  · rename_i cs
    refine .agg _ _ (by simp) fun k c v h1 h2 => ?_
    simp only [List.getElem?_map] at h1
    rw [← Array.getElem?_toList] at h2
    rw [h2] at h1
    simp at h1; subst h1
    exact hc v
  · exact hc _

theorem VR.of_int {k : IntKind} {n : Int} {v : Value} (h : VR w ι H A (.int k n) v) : v = .int k n := by cases h with | data _ _ h => cases h; rfl
theorem VR.of_bool {b : Bool} {v : Value} (h : VR w ι H A (.bool b) v) : v = .bool b := by cases h with | data _ _ h => cases h; rfl
theorem VR.of_str {l : List UInt8} {v : Value} (h : VR w ι H A (.str l) v) : ∃ s : ByteArray, v = .string s ∧ s.data.toList = l := by cases h with | data _ _ h => cases h; exact ⟨_, rfl, ‹_›⟩
theorem VR.of_nil {v : Value} (h : VR w ι H A .nil v) : ∃ base, v = .slice base 0 0 := by cases h with | data _ _ h => cases h; exact ⟨_, rfl⟩
theorem VR.of_agg {cs : List AV} {v : Value} (h : VR w ι H A (.agg cs) v) : ∃ vs : Array Value, v = .agg vs ∧ cs.length = vs.size ∧ ∀ (k : Nat) (c : AV) (u : Value), cs[k]? = some c → vs[k]? = some u → VR w ι H A c u := by
  cases h with
  | data _ _ h => cases h with | agg _ vs e h => exact ⟨vs, rfl, e, fun k c u h1 h2 => .data _ _ (h k c u h1 h2)⟩
  | agg _ vs e h => exact ⟨vs, rfl, e, h⟩
theorem VR.of_tup {cs : List AV} {v : Value} (h : VR w ι H A (.tup cs) v) : ∃ vs : Array Value, v = .tuple vs ∧ cs.length = vs.size ∧ ∀ (k : Nat) (c : AV) (u : Value), cs[k]? = some c → vs[k]? = some u → VR w ι H A c u := by
  cases h with
  | data _ _ h => cases h with | tup _ vs e h => exact ⟨vs, rfl, e, fun k c u h1 h2 => .data _ _ (h k c u h1 h2)⟩
  | tup _ vs e h => exact ⟨vs, rfl, e, h⟩
theorem VR.of_dptr {cs : List AV} {v : Value} (h : VR w ι H A (.dptr cs) v) : DR w A (.dptr cs) v := by cases h with | data _ _ h => exact h
theorem VR.of_lst {xs : List AV} {v : Value} (h : VR w ι H A (.lst xs) v) : DR w A (.lst xs) v := by cases h with | data _ _ h => exact h
theorem VR.of_func {f : FuncId} {cs : List AV} {v : Value} (h : VR w ι H A (.func f cs) v) : ∃ vs : Array Value, v = .func (.func f) #[] vs ∧ cs.length = vs.size ∧ ∀ (k : Nat) (c : AV) (u : Value), cs[k]? = some c → vs[k]? = some u → VR w ι H A c u := by
  cases h with
  | data _ _ h => cases h with | func _ _ vs e h => exact ⟨vs, rfl, e, fun k c u h1 h2 => .data _ _ (h k c u h1 h2)⟩
  | func _ _ vs e h => exact ⟨vs, rfl, e, h⟩
theorem VR.of_ref {id g off len : Nat} {v : Value} (h : VR w ι H A (.ref id g off len) v) {B : Blk} (hB : H id = some B) (hg : B.gen = g) :
    (∃ L o cap, ι id = some L ∧ v = .slice (some ⟨L.blk, o, none⟩) len cap ∧ off + len ≤ B.els.length ∧ off + cap ≤ L.cap ∧ len ≤ cap ∧ (cap = 0 ∨ o = L.base + off * B.sz)) ∨
    (∃ base, v = .slice base 0 0 ∧ B.els = [] ∧ off = 0 ∧ len = 0) := by
  cases h with
  | data _ _ h => cases h
  | ref _ _ _ _ o cap B' L h1 h2 h3 h4 h5 h6 h7 =>
    rw [hB] at h1; cases h1
    exact .inl ⟨L, o, cap, h3, rfl, h4, h5, h6, h7⟩
  | refNil _ _ B' base h1 h2 h3 =>
    rw [hB] at h1; cases h1
    exact .inr ⟨base, rfl, h3, rfl, rfl⟩
  | refDead _ _ _ _ B' _ h1 h2 =>
    rw [hB] at h1; cases h1; omega
theorem VR.of_ptr {id g i off : Nat} {v : Value} (h : VR w ι H A (.ptr id g i off) v) {B : Blk} (hB : H id = some B) (hg : B.gen = g) :
    ∃ L, ι id = some L ∧ v = .pointer (some ⟨L.blk, L.base + i * B.sz + off, none⟩) := by
  cases h with
  | data _ _ h => cases h
  | ptr _ _ _ _ B' L h1 h2 h3 =>
    rw [hB] at h1; cases h1
    exact ⟨L, h3, rfl⟩
  | ptrDead _ _ _ _ B' _ h1 h2 =>
    rw [hB] at h1; cases h1; omega

/-- The cells of a value that fits. -/
theorem VR.cells {x : AV} {v : Value} (h : VR w ι H A x v) {n : Nat} (hf : x.fits n = true) :
    v.cells.size = n ∧ (∀ (k : Nat) (c : AV), x.cells[k]? = some c → ∃ u, v.cells[k]? = some u ∧ VR w ι H A c u) ∧ ∀ u ∈ v.cells, u.oneCell' = true := by
  obtain ⟨hl, hc⟩ := fits_cells hf
  by_cases ha : ∃ cs, x = .agg cs
  · obtain ⟨cs, rfl⟩ := ha
    obtain ⟨vs, rfl, hs, hv⟩ := h.of_agg
    simp only [AV.cells, Value.cells] at *
    refine ⟨by omega, fun k c hk => ?_, fun u hu => ?_⟩
    · have hlt : k < vs.size := by have := (List.getElem?_eq_some_iff.1 hk).1; omega
      exact ⟨vs[k], by simp [hlt], hv k c _ hk (by simp [hlt])⟩
    · obtain ⟨k, hk⟩ := Array.mem_iff_getElem?.1 hu
      have hlt : k < cs.length := by have := (Array.getElem?_eq_some_iff.1 hk).1; omega
      exact (hv k cs[k] u (by simp [hlt]) hk).one (hc _ (by simp))
  · have hx : x.cells = [x] := by cases x <;> first | rfl | exact absurd ⟨_, rfl⟩ ha
    rw [hx] at hl hc
    have h1 := h.one (hc x (by simp))
    have hv : v.cells = #[v] := by cases v <;> first | rfl | (simp [Value.oneCell'] at h1)
    rw [hx, hv]
    refine ⟨by simpa using hl, fun k c hk => ?_, fun u hu => ?_⟩
    · cases k with
      | zero => simp at hk; subst hk; exact ⟨v, rfl, h⟩
      | succ k => simp at hk
    · simp at hu; subst hu; exact h1
end inv

section ty
variable {P : Program}
theorem und_of_tk_slice {t e : TypeId} (h : tk P t = .slice e) : P.underlying t = some (.slice e) := by
  unfold tk at h; split at h <;> simp_all
theorem und_of_tk_arr {t e : TypeId} {n : Nat} (h : tk P t = .arr n e) : P.underlying t = some (.array n e) := by
  unfold tk at h; split at h <;> simp_all
theorem und_of_tk_str {t : TypeId} (h : tk P t = .str) : P.underlying t = some .string := by
  unfold tk at h; split at h <;> simp_all
theorem und_of_tk_int {t : TypeId} {k : IntKind} (h : tk P t = .int k) : P.underlying t = some (.int k) := by
  unfold tk at h; split at h <;> simp_all
theorem und_of_tk_bool {t : TypeId} (h : tk P t = .bool) : P.underlying t = some .bool := by
  unfold tk at h; split at h <;> simp_all
theorem und_of_tk_struct {t : TypeId} {l : List (TypeId × Nat)} (h : tk P t = .struct l) : ∃ fs, P.underlying t = some (.struct fs) ∧ l = fs.toList.map fun f => (f.type, f.offset) := by
  unfold tk at h; split at h <;> simp_all
theorem info_of_csz {t : TypeId} {n : Nat} (h : csz P t = some n) : ∃ i, P.info? t = some i ∧ i.size = n := by
  unfold csz at h; cases hi : P.info? t <;> simp_all
theorem run_sizeOf_csz {t : TypeId} {n : Nat} (h : csz P t = some n) (w : World) : (sizeOf t).run P w = .ok n w := by
  obtain ⟨i, hi, rfl⟩ := info_of_csz h
  simp [sizeOf, typeInfo, hi]
theorem run_typeInfo' {t : TypeId} {i : TypeInfo} (h : P.info? t = some i) (w : World) : (typeInfo t).run P w = .ok i w := by simp [typeInfo, h]
theorem zero_of_zro {t : TypeId} {z : AV} (h : zro P t = some z) : ∃ i v, P.info? t = some i ∧ i.zero = some v ∧ z = ofConst v := by
  unfold zro at h
  cases hi : P.info? t with
  | none => simp [hi] at h
  | some i =>
    cases hz : i.zero with
    | none => simp [hi, hz] at h
    | some v => simp [hi, hz] at h; exact ⟨i, v, rfl, hz, h.symm⟩
theorem run_zeroValue_zro {t : TypeId} {z : AV} (h : zro P t = some z) (w : World) : ∃ v, (zeroValue t).run P w = .ok v w ∧ z = ofConst v := by
  obtain ⟨i, v, hi, hz, rfl⟩ := zero_of_zro h
  exact ⟨v, by simp [zeroValue, typeInfo, hi, hz], rfl⟩
end ty

section load
variable {P : Program} {w : World} {ι : Plc} {H : Heap} {A : Nat → Prop} {B0 : Nat}

theorem cellsAt_sound (hH : HR w ι H A B0) {x : AV} {v : Value} (h : VR w ι H A x v) {cs : List AV} (hc : cellsAt H x = some cs) :
    ∃ a, v = .pointer (some a) ∧ ∀ k c, cs[k]? = some c → ∃ u, w.cell? (a.add k) = some u ∧ VR w ι H A c u := by
  unfold cellsAt at hc
  split at hc
  · rename_i id g i off
    split at hc
    · rename_i B hB
      split at hc
      · rename_i hg
        split at hc
        · rename_i el hel
          split at hc
          · rename_i hoff
            simp at hc; subst hc
            obtain ⟨L, hL, rfl⟩ := h.of_ptr hB hg
            refine ⟨_, rfl, fun k c hk => ?_⟩
            have hb := hH.blk id B L hB hL
            obtain ⟨cc, e, fr, hrow, _, hcell⟩ := hb.row
            simp only [List.getElem?_drop] at hk
            obtain ⟨u, hu, hv⟩ := hcell _ c (flat_getElem? hb.fit hel hk)
            refine ⟨u, ?_, hv⟩
            rw [add_mk, cell_of_row w _ _ cc e fr hrow, ← hu]
            congr 1; omega
          · simp at hc
        · simp at hc
      · simp at hc
    · simp at hc
  · rename_i cs'
    simp at hc; subst hc
    have := h.of_dptr
    cases this with
    | dptr _ a vals e1 e2 e3 => exact ⟨a, rfl, fun k c hk => ⟨vals k, (e2 k (List.getElem?_eq_some_iff.1 hk).1).2, .data _ _ (e3 k c hk)⟩⟩
  · simp at hc

theorem run_isAgg_aggT {t : TypeId} {b : Bool} (h : aggT P t = some b) (w : World) : (isAgg t).run P w = .ok b w := by
  unfold aggT tk at h
  cases hd : P.underlying t with
  | none => simp [hd] at h
  | some d => cases d <;> simp [hd] at h <;> subst h <;> simp [isAgg, run_underlying hd]

theorem list_of_cells {cs : List AV} {f : Nat → Option Value} (h : ∀ k c, cs[k]? = some c → ∃ u, f k = some u ∧ VR w ι H A c u) (n : Nat) (hn : n ≤ cs.length) :
    ∃ us : List Value, us.length = n ∧ (∀ (j : Nat) (u : Value), us[j]? = some u → f j = some u) ∧ ∀ (j : Nat) (c : AV) (u : Value), j < n → cs[j]? = some c → us[j]? = some u → VR w ι H A c u := by
  induction n with
  | zero => exact ⟨[], rfl, by simp, by simp⟩
  | succ n ih =>
    obtain ⟨us, hl, h1, h2⟩ := ih (by omega)
    obtain ⟨u, hu, hv⟩ := h n cs[n] (by simp [show n < cs.length by omega])
    refine ⟨us ++ [u], by simp [hl], fun j x hx => ?_, fun j c x hj hc hx => ?_⟩
    · by_cases hj : j < n
      · rw [List.getElem?_append_left (by omega)] at hx; exact h1 j x hx
      · have : j = n := by have := (List.getElem?_eq_some_iff.1 hx).1; simp [hl] at this; omega
        subst this
        rw [List.getElem?_append_right (by omega)] at hx
        simp [hl] at hx; subst hx; exact hu
    · by_cases hj' : j < n
      · rw [List.getElem?_append_left (by omega)] at hx; exact h2 j c x hj' hc hx
      · have : j = n := by omega
        subst this
        rw [List.getElem?_append_right (by omega)] at hx
        simp [hl] at hx; subst hx
        rw [List.getElem?_eq_getElem (by omega)] at hc
        simp at hc; subst hc; exact hv

theorem loadVar_sound {t : TypeId} {a : Addr} {cs : List AV} (h : ∀ k c, cs[k]? = some c → ∃ u, w.cell? (a.add k) = some u ∧ VR w ι H A c u) {v : AV} (hl : loadA P t cs = some v) :
    ∃ u, (loadVar t a).run P w = .ok u w ∧ VR w ι H A v u := by
  unfold loadA at hl
  split at hl
  · simp at hl
  · rename_i hagg
    split at hl
    · rename_i n hn
      split at hl
      · rename_i hle
        simp at hl; subst hl
        obtain ⟨us, hul, h1, h2⟩ := list_of_cells (f := fun k => w.cell? (a.add k)) h n hle
        have hr := run_loadCells_list (P := P) w a us h1
        rw [hul] at hr
        refine ⟨.agg us.toArray, ?_, .agg _ _ (by simp [hul, Nat.min_eq_left hle]) fun k c u hk hu => ?_⟩
        · simp [loadVar, run_isAgg_aggT hagg, run_sizeOf_csz hn, hr]
        · have hkn : k < n := by have := (List.getElem?_eq_some_iff.1 hk).1; simp at this; omega
          rw [List.getElem?_take_of_lt hkn] at hk
          exact h2 k c u hkn hk (by simpa using hu)
      · simp at hl
    · simp at hl
  · rename_i hagg
    obtain ⟨u, hu, hv⟩ := h 0 v hl
    refine ⟨u, ?_, hv⟩
    have ha : a.add 0 = a := rfl
    rw [ha] at hu
    simp [loadVar, run_isAgg_aggT hagg, hu]

theorem part_sound {t : TypeId} {vs : Array Value} {cs : List AV} (hs : cs.length = vs.size) (h : ∀ (k : Nat) (c : AV) (u : Value), cs[k]? = some c → vs[k]? = some u → VR w ι H A c u) {off : Nat} {v : AV} (hl : partA P t cs off = some v) :
    ∃ u, (part t vs off).run P w = .ok u w ∧ VR w ι H A v u := by
  unfold partA at hl
  split at hl
  case isFalse => simp at hl
  rename_i hoff
  unfold loadA at hl
  split at hl
  · simp at hl
  · rename_i hagg
    split at hl
    · rename_i n hn
      split at hl
      · rename_i hle
        simp at hl; subst hl
        simp at hle
        refine ⟨.agg (vs.extract off (off + n)), ?_, .agg _ _ (by simp; omega) fun k c u hk hu => ?_⟩
        · simp [part, run_isAgg_aggT hagg, run_sizeOf_csz hn]
        · have hkn : k < n := by have := (List.getElem?_eq_some_iff.1 hk).1; simp at this; omega
          rw [List.getElem?_take_of_lt hkn, List.getElem?_drop] at hk
          refine h (off + k) c u hk ?_
          rw [← hu, Array.getElem?_extract_of_lt]
          simp; omega
      · simp at hl
    · simp at hl
  · rename_i hagg
    rw [List.getElem?_drop] at hl
    have hlt : off < vs.size := by have := (List.getElem?_eq_some_iff.1 hl).1; omega
    refine ⟨vs[off], ?_, h off v _ (by simpa using hl) (by simp [hlt])⟩
    simp [part, run_isAgg_aggT hagg, hlt]
end load
end Go.Ab

/- Operators, conversions, parts, bounds. -/
namespace Go.Ab
open Go.RowKit
section
variable {P : Program} {w : World} {ι : Plc} {H : Heap} {A : Nat → Prop} {B0 : Nat}

theorem baToList (s : ByteArray) : s.toList = s.data.toList := ByteArray.toList_eq s

theorem int_beq (a b : Int) : (a == b) = decide (a = b) := by rw [Bool.eq_iff_iff]; simp
theorem lst_beq (a b : List UInt8) : (a == b) = decide (a = b) := by rw [Bool.eq_iff_iff]; simp
theorem intBin_sound {op : BinOp} {k : IntKind} {a b : Int} {v : AV} (h : intBin op k a b = some v) (t : TypeId) :
    ∃ u, (binOp op t (.int k a) (.int k b)).run P w = .ok u w ∧ VR w ι H A v u := by
  cases op <;> simp only [intBin] at h <;> first
    | (simp at h; done)
    | (simp only [Option.some.injEq] at h; subst h
       refine ⟨_, ?_, .data _ _ (.int _ _)⟩
       simp [binOp, Op.intArith, Op.intBits]
       done)
    | (simp only [Option.some.injEq] at h; subst h
       refine ⟨_, ?_, .data _ _ (.bool _)⟩
       simp [binOp, Op.intCmp]
       done)
    | (simp only [Option.some.injEq] at h; subst h
       refine ⟨_, ?_, .data _ _ (.bool _)⟩
       simp [binOp, Op.intCmp, bne, int_beq]
       done)
    | (split at h
       · simp at h
       · rename_i hb
         simp only [Option.some.injEq] at h; subst h
         refine ⟨_, ?_, .data _ _ (.int _ _)⟩
         simp [binOp, Op.intDiv, hb])

theorem shA_sound {op : BinOp} {k k' : IntKind} {a b : Int} {v : AV} (ho : op = .shl ∨ op = .shr) (h : shA op k a b = some v) (t : TypeId) :
    ∃ u, (binOp op t (.int k a) (.int k' b)).run P w = .ok u w ∧ VR w ι H A v u := by
  unfold shA at h
  split at h
  · simp at h
  · rename_i hb
    rcases ho with rfl | rfl <;> simp only [Option.some.injEq] at h <;> subst h <;> exact ⟨_, by simp [binOp, Op.shift, hb], .data _ _ (.int _ _)⟩

theorem strBin_sound {op : BinOp} {x y : ByteArray} {v : AV} (h : strBin op x.data.toList y.data.toList = some v) (t : TypeId) :
    ∃ u, (binOp op t (.string x) (.string y)).run P w = .ok u w ∧ VR w ι H A v u := by
  cases op <;> simp only [strBin] at h <;> first
    | (simp at h; done)
    | (simp only [Option.some.injEq] at h; subst h
       refine ⟨_, ?_, .data _ _ (.bool _)⟩
       simp only [binOp, Op.stringOp, baToList, lst_beq, Sem.run_pure]
       done)
    | (split at h
       · rename_i hle
         simp only [Option.some.injEq] at h; subst h
         have hn : ¬ (9223372036854775807 < ((x.size : Int) + (y.size : Int))) := by simp at hle; omega
         refine ⟨.string (x ++ y), ?_, .data _ _ (.str _ _ (by simp))⟩
         simp [binOp, Op.stringOp, IntKind.max, IntKind.signed, IntKind.bits, hn]
       · simp at h)

theorem eqCell_sound {t : TypeId} {x y : AV} {u v : Value} {b : Bool} (hx : VR w ι H A x u) (hy : VR w ι H A y v) (h : eqCell P t x y = some b) (d : Nat) :
    (Op.equalIn (d + 1) t u v).run P w = .ok b w := by
  unfold eqCell at h
  split at h
  · rename_i ht
    have := hx.of_bool; subst this
    have := hy.of_bool; subst this
    simp at h; subst h
    exact run_equalIn_bool w d t _ _ (und_of_tk_bool ht)
  · rename_i k0 k a k' b' ht
    split at h
    · rename_i e; subst e
      have := hx.of_int; subst this
      have := hy.of_int; subst this
      simp at h; subst h
      simpa [int_beq] using run_equalIn_int w d t k _ a b' (und_of_tk_int ht)
    · simp at h
  · rename_i ht
    obtain ⟨s, rfl, hs⟩ := hx.of_str
    obtain ⟨s', rfl, hs'⟩ := hy.of_str
    simp at h; subst h
    rw [run_equalIn_string w d t s s' (und_of_tk_str ht), baToList, baToList, hs, hs', lst_beq]
  · simp at h

theorem eqFields_sound {xs ys : List AV} {us vs : Array Value} (hxl : xs.length = us.size) (hyl : ys.length = vs.size)
    (hx : ∀ (k : Nat) (c : AV) (u : Value), xs[k]? = some c → us[k]? = some u → VR w ι H A c u) (hy : ∀ (k : Nat) (c : AV) (u : Value), ys[k]? = some c → vs[k]? = some u → VR w ι H A c u) (d : Nat) :
    ∀ (fs : List Field) (b : Bool), (fs.all fun f => f.name != "_") = true → eqFields P (fs.map fun f => (f.type, f.offset)) xs ys = some b → (Op.eqFields (d + 1) us vs fs).run P w = .ok b w := by
  intro fs
  induction fs with
  | nil => intro b _ h; simp [eqFields] at h; subst h; simp [Op.eqFields]
  | cons f fs ih =>
    intro b hn h
    simp only [List.all_cons, Bool.and_eq_true, bne_iff_ne] at hn
    simp only [List.map_cons, eqFields] at h
    split at h
    · rename_i x y h1 h2
      split at h
      · rename_i b1 b2 h3 h4
        simp at h; subst h
        have l1 : f.offset < us.size := by have := (List.getElem?_eq_some_iff.1 h1).1; omega
        have l2 : f.offset < vs.size := by have := (List.getElem?_eq_some_iff.1 h2).1; omega
        have e := eqCell_sound (hx _ _ us[f.offset] h1 (by simp [l1])) (hy _ _ vs[f.offset] h2 (by simp [l2])) h3 d
        have hagg : aggT P f.type = some false := by
          unfold eqCell at h3; unfold aggT
          split at h3 <;> simp_all
        have p1 : (part f.type us f.offset).run P w = .ok us[f.offset] w := by simp [part, run_isAgg_aggT hagg, l1]
        have p2 : (part f.type vs f.offset).run P w = .ok vs[f.offset] w := by simp [part, run_isAgg_aggT hagg, l2]
        have ih := ih b2 hn.2 h4
        rw [Op.eqFields, if_pos hn.1]
        simp only [Sem.run_bind, p1, p2, e, Result.andThen_ok, Sem.run_ite, ih, Sem.run_pure]
        cases b1 <;> simp
      · simp at h
    · simp at h

theorem eqA_sound {t : TypeId} {x y : AV} {u v : Value} {b : Bool} (hx : VR w ι H A x u) (hy : VR w ι H A y v) (h : eqA P t x y = some b) (xo yo : Operand) (op : BinOp) :
    (eqGuard op t xo yo u v).run P w = .ok () w ∧ (Op.equal t u v).run P w = .ok b w := by
  unfold eqA at h
  split at h
  · rename_i xs ys
    split at h
    · rename_i fs htk
      split at h
      · rename_i he
        obtain ⟨us, rfl, hul, hu⟩ := hx.of_agg
        obtain ⟨vs, rfl, hvl, hv⟩ := hy.of_agg
        obtain ⟨fs', hund, rfl⟩ := und_of_tk_struct htk
        simp only [eqTypes, hund, Bool.and_eq_true, Bool.not_eq_true'] at he
        obtain ⟨⟨h1, h2⟩, h3⟩ := he
        have hf : P.fieldsOf t = fs' := by simp [Program.fieldsOf, hund]
        refine ⟨run_eqGuard_agg w op t xo yo us vs h2, ?_⟩
        show (Op.equalIn (9999 + 1) t _ _).run P w = _
        rw [run_equalIn_struct w 9999 t us vs (by rw [hf]; exact hund) h1, hf]
        exact eqFields_sound hul hvl hu hv 9998 fs'.toList b h3 h
      · simp at h
    · simp at h
  · rename_i a b'
    split at h
    · rename_i ht
      have := hx.of_bool; subst this
      have := hy.of_bool; subst this
      simp at h; subst h
      refine ⟨by cases op <;> simp [eqGuard], run_equal_bool w t _ _ (und_of_tk_bool ht)⟩
    · simp at h
  · simp at h

theorem binA_sound {op : BinOp} {t : TypeId} {x y : AV} {u v : Value} {r : AV} (hx : VR w ι H A x u) (hy : VR w ι H A y v) (h : binA P op t x y = some r) (xo yo : Operand) :
    ∃ z, (do eqGuard op t xo yo u v; binOp op t u v : Sem Value).run P w = .ok z w ∧ VR w ι H A r z := by
  unfold binA at h
  split at h
  · rename_i k a k' b
    have := hx.of_int; subst this
    have := hy.of_int; subst this
    have hg : ∀ op : BinOp, (eqGuard op t xo yo (.int k a) (.int k' b)).run P w = .ok () w := by intro op; cases op <;> simp [eqGuard]
    split at h
    · obtain ⟨z, h1, h2⟩ := shA_sound (P := P) (w := w) (ι := ι) (H := H) (A := A) (k' := k') (.inl rfl) h t
      exact ⟨z, by simp [hg, h1], h2⟩
    · obtain ⟨z, h1, h2⟩ := shA_sound (P := P) (w := w) (ι := ι) (H := H) (A := A) (k' := k') (.inr rfl) h t
      exact ⟨z, by simp [hg, h1], h2⟩
    · split at h
      · rename_i e; subst e
        obtain ⟨z, h1, h2⟩ := intBin_sound (P := P) (w := w) (ι := ι) (H := H) (A := A) h t
        exact ⟨z, by simp [hg, h1], h2⟩
      · simp at h
  · obtain ⟨s, rfl, hs⟩ := hx.of_str
    obtain ⟨s', rfl, hs'⟩ := hy.of_str
    subst hs; subst hs'
    obtain ⟨z, h1, h2⟩ := strBin_sound (P := P) (w := w) (ι := ι) (H := H) (A := A) h t
    have hg : (eqGuard op t xo yo (.string s) (.string s')).run P w = .ok () w := by cases op <;> simp [eqGuard]
    exact ⟨z, by simp [hg, h1], h2⟩
  · split at h
    · rename_i h1 h2 _
      cases he : eqA P t x y with
      | none => simp [he] at h
      | some b =>
        simp [he] at h; subst h
        obtain ⟨g, e⟩ := eqA_sound hx hy he xo yo .eql
        refine ⟨.bool b, ?_, .data _ _ (.bool _)⟩
        simp only [Sem.run_bind, g, Result.andThen_ok]
        unfold eqA at he
        split at he
        · obtain ⟨us, rfl, -⟩ := hx.of_agg
          obtain ⟨vs, rfl, -⟩ := hy.of_agg
          simp [binOp, e]
        · have := hx.of_bool; subst this
          have := hy.of_bool; subst this
          simp [binOp, e]
        · simp at he
    · cases he : eqA P t x y with
      | none => simp [he] at h
      | some b =>
        simp [he] at h; subst h
        obtain ⟨g, e⟩ := eqA_sound hx hy he xo yo .neq
        refine ⟨.bool (!b), ?_, .data _ _ (.bool _)⟩
        simp only [Sem.run_bind, g, Result.andThen_ok]
        unfold eqA at he
        split at he
        · obtain ⟨us, rfl, -⟩ := hx.of_agg
          obtain ⟨vs, rfl, -⟩ := hy.of_agg
          simp [binOp, e]
        · have := hx.of_bool; subst this
          have := hy.of_bool; subst this
          simp [binOp, e]
        · simp at he
    · simp at h

theorem unA_sound {op : UnOp} {x : AV} {u : Value} {r : AV} (hx : VR w ι H A x u) (h : unA op x = some r) : ∃ z, (Op.unary op u).run P w = .ok z w ∧ VR w ι H A r z := by
  unfold unA at h
  split at h
  · have := hx.of_int; subst this
    simp at h; subst h
    exact ⟨_, by simp [Op.unary, Op.intArith], .data _ _ (.int _ _)⟩
  · have := hx.of_int; subst this
    simp at h; subst h
    exact ⟨_, by simp [Op.unary, Op.intBits], .data _ _ (.int _ _)⟩
  · have := hx.of_bool; subst this
    simp at h; subst h
    exact ⟨_, by simp [Op.unary], .data _ _ (.bool _)⟩
  · simp at h

/-- What a slice shows, cell by cell. -/
theorem refEls_sound (hH : HR w ι H A B0) {id g off len sz : Nat} {xs : List AV} {v : Value} (hv : VR w ι H A (.ref id g off len) v) (h : refEls H id g off len = some (sz, xs)) :
    ∃ base cap, v = .slice base len cap ∧ len ≤ cap ∧ xs.length = len ∧ (∀ x ∈ xs, x.fits sz = true) ∧
      (xs = [] ∨ ∃ a, base = some a ∧ ∀ k c, (flat xs)[k]? = some c → ∃ u, w.cell? (a.add k) = some u ∧ VR w ι H A c u) := by
  unfold refEls at h
  split at h
  · rename_i B hB
    split at h
    · rename_i hg
      split at h
      · rename_i hle
        simp only [Option.some.injEq, Prod.mk.injEq] at h
        obtain ⟨rfl, rfl⟩ := h
        rcases hv.of_ref hB hg with ⟨L, o, cap, hL, rfl, h1, h2, h3, h4⟩ | ⟨base, rfl, he, rfl, rfl⟩
        · have hb := hH.blk id B L hB hL
          obtain ⟨cc, e, fr, hrow, _, hcell⟩ := hb.row
          have hfit : ∀ x ∈ (B.els.drop off).take len, x.fits B.sz = true := fun x hx => hb.fit x (List.mem_of_mem_drop (List.mem_of_mem_take hx))
          refine ⟨_, cap, rfl, h3, by simp; omega, hfit, ?_⟩
          by_cases hz : len = 0
          · left; simp [hz]
          · right
            refine ⟨_, rfl, fun k c hk => ?_⟩
            have ho : o = L.base + off * B.sz := by omega
            have hflat : flat B.els = flat (B.els.take off) ++ (flat ((B.els.drop off).take len) ++ flat ((B.els.drop off).drop len)) := by
              rw [← flat_append, ← flat_append, List.take_append_drop, List.take_append_drop]
            have hlen : (flat (B.els.take off)).length = off * B.sz := by
              rw [flat_length (sz := B.sz) (fun x hx => hb.fit x (List.mem_of_mem_take hx)), List.length_take, Nat.min_eq_left (by omega)]
            have : (flat B.els)[off * B.sz + k]? = some c := by
              rw [hflat, List.getElem?_append_right (by omega), hlen, List.getElem?_append_left]
              · rw [← hk]; congr 1; omega
              · have := (List.getElem?_eq_some_iff.1 hk).1; omega
            obtain ⟨u, hu, hv⟩ := hcell _ c this
            refine ⟨u, ?_, hv⟩
            rw [add_mk, cell_of_row w _ _ cc e fr hrow, ← hu, ho]
            congr 1; omega
        · refine ⟨base, 0, rfl, Nat.le_refl _, by simp, by simp [he], .inl (by simp [he])⟩
      · simp at h
    · simp at h
  · simp at h

theorem lst_sound {xs : List AV} {v : Value} (hv : VR w ι H A (.lst xs) v) :
    ∃ base cap, v = .slice base xs.length cap ∧ xs.length ≤ cap ∧ (xs = [] ∨ ∃ a sz, base = some a ∧ (∀ x ∈ xs, x.fits sz = true) ∧ ∀ k c, (flat xs)[k]? = some c → ∃ u, A a.block ∧ w.cell? (a.add k) = some u ∧ DR w A c u) := by
  have hd := hv.of_lst
  cases hd with
  | lst0 base cap => exact ⟨base, cap, rfl, Nat.zero_le _, .inl rfl⟩
  | lst sz _ a len cap vals e1 e2 e3 e4 e5 =>
    subst e1
    exact ⟨some a, cap, rfl, e2, .inr ⟨a, sz, rfl, e3, fun k c hk => ⟨vals k, (e4 k (List.getElem?_eq_some_iff.1 hk).1).1, (e4 k (List.getElem?_eq_some_iff.1 hk).1).2, e5 k c hk⟩⟩⟩

theorem flat_bytesA (l : List UInt8) : flat (bytesA l) = bytesA l := by
  induction l with
  | nil => rfl
  | cons b l ih => simp only [flat, bytesA, List.map_cons, List.flatMap_cons, AV.cells, List.cons_append, List.nil_append] at ih ⊢; rw [ih]

/-- What is appended or copied: how many, and its cells. -/
theorem srcEls_sound (hH : HR w ι H A B0) {n : Nat} {x : AV} {v : Value} {els : List AV} (hv : VR w ι H A x v) (h : srcEls H n x = some els) :
    (Builtin.lenOf v).run P w = .ok els.length w ∧ (∀ e ∈ els, e.fits n = true) ∧
    ∀ m, m ≤ els.length → ∃ us : List Value, us.length = m * n ∧ (∀ w' : World, w'.heap = w.heap → (Builtin.firstCells n m v).run P w' = .ok us.toArray w') ∧
      (∀ (j : Nat) (c : AV) (u : Value), (flat els)[j]? = some c → us[j]? = some u → VR w ι H A c u) ∧ ∀ u ∈ us, u.oneCell' = true := by
  have key : ∀ (a : Addr) (len cap : Nat), (∀ e ∈ els, e.fits n = true) → (∀ k c, (flat els)[k]? = some c → ∃ u, w.cell? (a.add k) = some u ∧ VR w ι H A c u) → ∀ m, m ≤ els.length → ∃ us : List Value, us.length = m * n ∧ (∀ w' : World, w'.heap = w.heap → (Builtin.firstCells n m (.slice (some a) len cap)).run P w' = .ok us.toArray w') ∧
      (∀ (j : Nat) (c : AV) (u : Value), (flat els)[j]? = some c → us[j]? = some u → VR w ι H A c u) ∧ ∀ u ∈ us, u.oneCell' = true := by
    intro a len cap hf hc m hm
    have hlen := flat_length hf
    have hmn : m * n ≤ (flat els).length := by rw [hlen]; exact Nat.mul_le_mul_right _ hm
    obtain ⟨us, hl, h1, h2⟩ := list_of_cells (f := fun k => w.cell? (a.add k)) hc (m * n) hmn
    refine ⟨us, hl, fun w' hw' => ?_, fun j c u hj hu => h2 j c u (by have := (List.getElem?_eq_some_iff.1 hu).1; omega) hj hu, fun u hu => ?_⟩
    · refine run_firstCells_some w' n m a len cap us hl fun j v hv => ?_
      rw [World.cell?_of_block (w := w) (by rw [hw'])]
      exact h1 j v hv
    · obtain ⟨j, hj⟩ := List.mem_iff_getElem?.1 hu
      have hlt : j < us.length := (List.getElem?_eq_some_iff.1 hj).1
      have hc' : (flat els)[j]? = some (flat els)[j] := by simp [show j < (flat els).length by omega]
      refine (h2 j _ u (by omega) hc' hj).one ?_
      have hmem : (flat els)[j] ∈ flat els := by simp
      simp only [flat, List.mem_flatMap] at hmem
      obtain ⟨e, he, hce⟩ := hmem
      exact (fits_cells (hf e he)).2 _ hce
  have empty : els = [] → ∀ (base : Option Addr) (len cap : Nat), ∀ m, m ≤ els.length → ∃ us : List Value, us.length = m * n ∧ (∀ w' : World, w'.heap = w.heap → (Builtin.firstCells n m (.slice base len cap)).run P w' = .ok us.toArray w') ∧
      (∀ (j : Nat) (c : AV) (u : Value), (flat els)[j]? = some c → us[j]? = some u → VR w ι H A c u) ∧ ∀ u ∈ us, u.oneCell' = true := by
    intro he base len cap m hm
    have hm0 : m = 0 := by simp [he] at hm; exact hm
    subst hm0
    refine ⟨[], by simp, fun w' _ => ?_, by simp, by simp⟩
    cases base with
    | none => simp [Builtin.firstCells]
    | some a => simp [Builtin.firstCells, loadCells, loadCellsFrom]
  unfold srcEls at h
  split at h
  · simp at h; subst h
    obtain ⟨base, rfl⟩ := hv.of_nil
    exact ⟨by simp [Builtin.lenOf], by simp, empty rfl base 0 0⟩
  · rename_i xs
    split at h
    · rename_i hall
      simp at h; subst h
      obtain ⟨base, cap, rfl, hcap, hcase⟩ := lst_sound hv
      simp only [List.all_eq_true] at hall
      refine ⟨by simp [Builtin.lenOf], hall, ?_⟩
      rcases hcase with rfl | ⟨a, sz, rfl, _, hc⟩
      · exact empty rfl base _ _
      · exact key a _ _ hall fun k c hk => by obtain ⟨u, _, h2, h3⟩ := hc k c hk; exact ⟨u, h2, .data _ _ h3⟩
    · simp at h
  · rename_i id g off len
    split at h
    · rename_i sz xs hr
      split at h
      · rename_i hsz
        simp at h; subst h
        obtain ⟨base, cap, rfl, hcap, hl, hf, hcase⟩ := refEls_sound hH hv hr
        have hf' : ∀ e ∈ xs, e.fits n = true := by
          rcases hsz with rfl | rfl
          · exact hf
          · simp
        refine ⟨by simp [Builtin.lenOf, hl], hf', ?_⟩
        rcases hcase with rfl | ⟨a, rfl, hc⟩
        · exact empty rfl base _ _
        · exact key a _ _ hf' hc
      · simp at h
    · simp at h
  · rename_i l
    split at h
    · rename_i hn
      simp at h; subst h; subst hn
      obtain ⟨s, rfl, hs⟩ := hv.of_str
      have hsz : s.size = l.length := by rw [← hs]; simp
      refine ⟨by simp [Builtin.lenOf, bytesA, hsz], by simp [bytesA, AV.fits, AV.cells, AV.isCell], fun m hm => ?_⟩
      simp only [bytesA, List.length_map] at hm
      refine ⟨(l.take m).map fun b => .int .u8 b.toNat, by simp; omega, fun w' _ => ?_, fun j c u hj hu => ?_, ?_⟩
      · simp only [Builtin.firstCells, Sem.run_pure]
        congr 1
        apply Array.ext'
        simp [← hs]
      · rw [flat_bytesA] at hj
        simp only [bytesA, List.getElem?_map, Option.map_eq_some_iff] at hj hu
        obtain ⟨b, hb, rfl⟩ := hj
        obtain ⟨b', hb', rfl⟩ := hu
        have hjm : j < m := by have := (List.getElem?_eq_some_iff.1 hb').1; simp at this; omega
        rw [List.getElem?_take_of_lt hjm, hb] at hb'
        simp at hb'; subst hb'
        exact .data _ _ (.int _ _)
      · intro u hu
        obtain ⟨b, _, rfl⟩ := List.mem_map.1 hu
        rfl
    · simp at h
  · simp at h
end
end Go.Ab

/- Slices, addresses, lengths; and all operations that make no block, in one statement. -/
namespace Go.Ab
open Go.RowKit
section
variable {P : Program} {w : World} {ι : Plc} {H : Heap} {A : Nat → Prop} {B0 : Nat}

theorem bndA_sound {ρ : Operand → AV} {σ : Operand → Value} (hρ : ∀ x, VR w ι H A (ρ x) (σ x)) {d : Nat} {x : Option Operand} {n : Int} (h : bndA ρ d x = some n) :
    (x = none ∧ n = d) ∨ ∃ y k, x = some y ∧ σ y = .int k n := by
  unfold bndA at h
  split at h
  · simp at h; exact .inl ⟨rfl, h.symm⟩
  · rename_i y
    split at h
    · rename_i k m hy
      simp at h; subst h
      have := hρ y; rw [hy] at this
      exact .inr ⟨y, k, rfl, this.of_int⟩
    · simp at h

theorem run_sliceBound_ok {k : IntKind} {n : Int} {y : Nat} {code : BoundsCode} (h0 : 0 ≤ n) (h1 : n ≤ y) : (Instr.sliceBound (.int k n) y code).run P w = .ok n.toNat w := by
  simp [Instr.sliceBound, asIntOf, h0, h1]

theorem run_sliceBounds_ok {ρ : Operand → AV} {σ : Operand → Value} (hρ : ∀ x, VR w ι H A (ρ x) (σ x)) {lo hi : Option Operand} {a b : Int} {len cap : Nat} {isS : Bool}
    (ha : bndA ρ 0 lo = some a) (hb : bndA ρ len hi = some b) (h0 : 0 ≤ a) (h1 : a ≤ b) (h2 : b ≤ len) (hc : len ≤ cap) :
    (Instr.sliceBounds isS len cap (lo.map σ) (hi.map σ) none).run P w = .ok (a.toNat, b.toNat, cap) w := by
  rcases bndA_sound hρ ha with ⟨rfl, rfl⟩ | ⟨y, k, rfl, hy⟩ <;> rcases bndA_sound hρ hb with ⟨rfl, rfl⟩ | ⟨z, k', rfl, hz⟩
  · simp [Instr.sliceBounds]
  · simp [Instr.sliceBounds, hz, run_sliceBound_ok (P := P) (w := w) (show 0 ≤ b by omega) (show b ≤ cap by omega)]
  · have := run_sliceBound_ok (P := P) (w := w) (k := k) (code := .sliceB) h0 (show a ≤ ((len : Nat) : Int) by omega)
    simp [Instr.sliceBounds, hy, this]
  · have e1 := run_sliceBound_ok (P := P) (w := w) (k := k) (code := .sliceB) h0 (show a ≤ ((b.toNat : Nat) : Int) by omega)
    have e2 : ∀ code, (Instr.sliceBound (.int k' b) cap code).run P w = .ok b.toNat w := fun code => run_sliceBound_ok (show 0 ≤ b by omega) (show b ≤ cap by omega)
    cases isS <;> simp [Instr.sliceBounds, hy, hz, e1, e2]

theorem extract_data (s : ByteArray) (a b : Nat) : (s.extract a b).data.toList = (s.data.toList.drop a).take (b - a) := by
  rw [ByteArray.data_extract, Array.toList_extract]

theorem flat_drop_take {sz : Nat} {xs : List AV} (h : ∀ x ∈ xs, x.fits sz = true) {a n k : Nat} {c : AV} (hk : (flat ((xs.drop a).take n))[k]? = some c) (ha : a ≤ xs.length) : (flat xs)[a * sz + k]? = some c := by
  have hflat : flat xs = flat (xs.take a) ++ (flat ((xs.drop a).take n) ++ flat ((xs.drop a).drop n)) := by
    rw [← flat_append, ← flat_append, List.take_append_drop, List.take_append_drop]
  have hlen : (flat (xs.take a)).length = a * sz := by
    rw [flat_length (sz := sz) (fun x hx => h x (List.mem_of_mem_take hx)), List.length_take, Nat.min_eq_left ha]
  rw [hflat, List.getElem?_append_right (by omega), hlen, show a * sz + k - a * sz = k by omega, List.getElem?_append_left (List.getElem?_eq_some_iff.1 hk).1]
  exact hk

theorem sliceA_sound (hH : HR w ι H A B0) {ρ : Operand → AV} {σ : Operand → Value} (hρ : ∀ x, VR w ι H A (ρ x) (σ x)) {t : TypeId} {x : AV} {v : Value} (hx : VR w ι H A x v) {lo hi mx : Option Operand} {r : AV}
    (h : sliceA P t H ρ x lo hi mx = some r) : ∃ u, (Instr.sliceAt t v (lo.map σ) (hi.map σ) (mx.map σ)).run P w = .ok u w ∧ VR w ι H A r u := by
  have mx3 : ∀ (e : TypeId), P.underlying t = some (.slice e) → ∀ (base : Option Addr) (len cap : Nat) (m : Operand) (n : Nat) (k : IntKind), csz P e = some n → bndA ρ 0 lo = some 0 → bndA ρ len hi = some 0 → hi ≠ none → ρ m = .int k 0 →
      ∃ u, (Instr.sliceAt t (.slice base len cap) (lo.map σ) (hi.map σ) (some (σ m))).run P w = .ok u w ∧ VR w ι H A .nil u := by
    intro e he base len cap m n k hn h1 h2 h3 h4
    have hm : σ m = .int k 0 := by have := hρ m; rw [h4] at this; exact this.of_int
    obtain ⟨y, rfl⟩ : ∃ y, hi = some y := by cases hi with | none => exact absurd rfl h3 | some y => exact ⟨y, rfl⟩
    rcases bndA_sound hρ h2 with ⟨h, _⟩ | ⟨y', k2, h, hy⟩
    · cases h
    simp at h; subst h
    have z : ∀ (k : IntKind) (y : Nat) (code : BoundsCode), (Instr.sliceBound (.int k 0) y code).run P w = .ok 0 w := fun k y code => by
      have := run_sliceBound_ok (P := P) (w := w) (k := k) (n := 0) (y := y) (code := code) (by omega) (by omega)
      simpa using this
    have hb : (Instr.sliceBounds true len cap (lo.map σ) (some (σ y)) (some (σ m))).run P w = .ok (0, 0, 0) w := by
      rcases bndA_sound hρ h1 with ⟨rfl, _⟩ | ⟨y', k2, rfl, hy'⟩
      · simp [Instr.sliceBounds, hm, hy, z]
      · simp [Instr.sliceBounds, hm, hy, hy', z]
    refine ⟨.slice base 0 0, ?_, .data _ _ (.nil _)⟩
    simp [Instr.sliceAt, Instr.slice, run_underlying he, hb, run_sizeOf_csz hn]
  unfold sliceA at h
  split at h
  · rename_i l
    split at h
    · rename_i htk
      split at h
      · rename_i a b ha hb
        split at h
        · rename_i hc
          obtain ⟨h0, h1, h2⟩ := hc
          simp at h; subst h
          obtain ⟨s, rfl, hs⟩ := hx.of_str
          have hsz : s.size = l.length := by rw [← hs]; simp
          have hu := und_of_tk_str htk
          have hb' := run_sliceBounds_ok (P := P) hρ (isS := false) (cap := s.size) ha (by rw [hsz]; exact hb) h0 h1 (by omega) (Nat.le_refl _)
          refine ⟨.string (s.extract a.toNat b.toNat), by simp [Instr.sliceAt, Instr.slice, run_underlying hu, hb'], .data _ _ (.str _ _ ?_)⟩
          rw [extract_data, hs]; congr 1; omega
        · simp at h
      · simp at h
    · simp at h
  · rename_i xs
    split at h
    · rename_i e htk
      split at h
      · rename_i a b ha hb
        split at h
        · rename_i hc
          obtain ⟨h0, h1, h2, h3, h4⟩ := hc
          simp at h; subst h
          obtain ⟨base, cap, rfl, hcap, hcase⟩ := lst_sound hx
          have hu := und_of_tk_slice htk
          obtain ⟨n, hn⟩ := Option.ne_none_iff_exists'.1 h3
          have hb' := run_sliceBounds_ok (P := P) hρ (isS := true) ha hb h0 h1 h2 hcap
          refine ⟨.slice (if cap = a.toNat then base else base.map (·.add (a.toNat * n))) (b.toNat - a.toNat) (cap - a.toNat), by simp [Instr.sliceAt, Instr.slice, run_underlying hu, hb', run_sizeOf_csz hn], ?_⟩
          by_cases hab : a = b
          · subst hab
            simp
            exact .data _ _ (.lst0 _ _)
          · rcases hcase with rfl | ⟨ad, sz, rfl, hf, hcell⟩
            · simp at h2; omega
            · have hn' : n = sz := by
                simp only [List.all_eq_true, beq_iff_eq] at h4
                cases xs with
                | nil => simp at h2; omega
                | cons x xs =>
                  have := h4 x (by simp)
                  rw [hn] at this
                  have h5 := (fits_cells (hf x (by simp))).1
                  simp at this; omega
              subst hn'
              rw [if_neg (by omega)]
              have hlen : ((xs.drop a.toNat).take (b - a).toNat).length = b.toNat - a.toNat := by simp; omega
              have hcell' : ∀ (k : Nat) (c : AV), (flat ((xs.drop a.toNat).take (b - a).toNat))[k]? = some c → ∃ u, A ad.block ∧ w.cell? (ad.add (a.toNat * n + k)) = some u ∧ DR w A c u := fun k c hk => hcell _ c (flat_drop_take hf hk (by omega))
              refine .data _ _ (.lst n _ _ _ _ (fun k => (w.cell? (ad.add (a.toNat * n + k))).getD undef) hlen.symm (by omega) (fun x hx => hf x (List.mem_of_mem_drop (List.mem_of_mem_take hx))) (fun k hk => ?_) fun k c hk => ?_)
              · obtain ⟨u, h5, h6, _⟩ := hcell' k _ (List.getElem?_eq_getElem hk)
                refine ⟨by rw [add_block]; exact h5, ?_⟩
                rw [add_add, h6]; rfl
              · obtain ⟨u, _, h6, h7⟩ := hcell' k c hk
                rw [h6]; exact h7
        · simp at h
      · simp at h
    · rename_i e m htk
      split at h
      · rename_i a b k c ha hb hm
        split at h
        · rename_i hc
          obtain ⟨rfl, rfl, rfl, h5, h6⟩ := hc
          simp at h; subst h
          obtain ⟨base, cap, rfl, hcap, hcase⟩ := lst_sound hx
          obtain ⟨n, hcs⟩ := Option.ne_none_iff_exists'.1 h6
          exact mx3 e (und_of_tk_slice htk) base _ cap m n k hcs ha hb h5 hm
        · simp at h
      · simp at h
    · simp at h
  · rename_i id g off len
    split at h
    · rename_i e htk
      split at h
      · rename_i sz xs a b hr ha hb
        split at h
        · rename_i hc
          obtain ⟨h0, h1, h2, hn⟩ := hc
          simp at h; subst h
          have hu := und_of_tk_slice htk
          unfold refEls at hr
          split at hr
          · rename_i B hB
            split at hr
            · rename_i hg
              split at hr
              · rename_i hle
                simp only [Option.some.injEq, Prod.mk.injEq] at hr
                obtain ⟨rfl, rfl⟩ := hr
                rcases hx.of_ref hB hg with ⟨L, o, cap, hL, rfl, e1, e2, e3, e4⟩ | ⟨base, rfl, he, rfl, rfl⟩
                · have hb' := run_sliceBounds_ok (P := P) hρ (isS := true) ha hb h0 h1 h2 e3
                  refine ⟨.slice (if cap = a.toNat then some ⟨L.blk, o, none⟩ else some (Addr.add ⟨L.blk, o, none⟩ (a.toNat * B.sz))) (b.toNat - a.toNat) (cap - a.toNat), by simp [Instr.sliceAt, Instr.slice, run_underlying hu, hb', run_sizeOf_csz hn], ?_⟩
                  have hlen : (b - a).toNat = b.toNat - a.toNat := by omega
                  rw [hlen]
                  split
                  · rename_i hcap
                    exact .ref id g _ _ o _ B L hB hg hL (by omega) (by omega) (by omega) (.inl (by omega))
                  · rename_i hcap
                    rw [add_mk]
                    refine .ref id g _ _ _ _ B L hB hg hL (by omega) (by omega) (by omega) (.inr ?_)
                    rw [Nat.add_mul]; omega
                · have hb' := run_sliceBounds_ok (P := P) hρ (isS := true) (cap := 0) ha hb h0 h1 h2 (Nat.le_refl _)
                  have ha0 : a.toNat = 0 := by omega
                  have hb0 : b.toNat = 0 := by omega
                  have hlen : (b - a).toNat = 0 := by omega
                  rw [ha0, hb0] at hb'
                  refine ⟨.slice base 0 0, by simp [Instr.sliceAt, Instr.slice, run_underlying hu, hb', run_sizeOf_csz hn], ?_⟩
                  rw [ha0, hlen]
                  exact .refNil id g B base hB hg he
              · simp at hr
            · simp at hr
          · simp at hr
        · simp at h
      · simp at h
    · rename_i e m htk
      split at h
      · rename_i sz a b k c hr ha hb hm
        split at h
        · rename_i hc
          obtain ⟨rfl, rfl, rfl, h5, h6⟩ := hc
          simp at h; subst h
          obtain ⟨base, cap, rfl, _⟩ := refEls_sound hH hx hr
          obtain ⟨n, hcs⟩ := Option.ne_none_iff_exists'.1 h6
          exact mx3 e (und_of_tk_slice htk) base _ cap m n k hcs ha hb h5 hm
        · simp at h
      · simp at h
    · simp at h
  · simp at h

theorem alive_sound {id g i off : Nat} {v : Value} (h : VR w ι H A (.ptr id g i off) v) (ha : alive H id g = true) : ∃ B L, H id = some B ∧ B.gen = g ∧ ι id = some L ∧ v = .pointer (some ⟨L.blk, L.base + i * B.sz + off, none⟩) := by
  unfold alive at ha
  split at ha
  · rename_i B hB
    simp at ha
    obtain ⟨L, hL, e⟩ := h.of_ptr hB ha
    exact ⟨B, L, hB, ha, hL, e⟩
  · simp at ha

theorem dptr_drop {cs : List AV} {a : Addr} (h : DR w A (.dptr cs) (.pointer (some a))) (off : Nat) : DR w A (.dptr (cs.drop off)) (.pointer (some (a.add off))) := by
  cases h with
  | dptr _ _ vals e1 e2 e3 =>
    refine .dptr _ _ (fun k => vals (off + k)) (fun c hc => e1 c (List.mem_of_mem_drop hc)) (fun k hk => ?_) fun k c hk => e3 _ c (by simpa using hk)
    simp at hk
    obtain ⟨h1, h2⟩ := e2 (off + k) (by omega)
    exact ⟨by rw [add_block]; exact h1, by rw [add_add]; exact h2⟩

theorem of_dptr' {cs : List AV} {v : Value} (h : VR w ι H A (.dptr cs) v) : ∃ a, v = .pointer (some a) ∧ DR w A (.dptr cs) (.pointer (some a)) := by
  have := h.of_dptr
  cases this with | dptr _ a vals e1 e2 e3 => exact ⟨a, rfl, .dptr _ _ vals e1 e2 e3⟩

theorem fieldAddrA_sound {t : TypeId} {x : AV} {v : Value} (hx : VR w ι H A x v) {f : Nat} {r : AV} (h : fieldAddrA P t H x f = some r) : ∃ u, (Instr.fieldAt t v f).run P w = .ok u w ∧ VR w ι H A r u := by
  unfold fieldAddrA at h
  split at h
  · rename_i fs htk
    split at h
    · rename_i ft off hf
      split at h
      · rename_i n hn
        obtain ⟨fs', hund, rfl⟩ := und_of_tk_struct htk
        simp only [List.getElem?_map, Option.map_eq_some_iff, Prod.mk.injEq] at hf
        obtain ⟨fd, hfd, rfl, rfl⟩ := hf
        have hfd' : fs'[f]? = some fd := by simpa using hfd
        split at h
        · rename_i id g i o
          split at h
          · rename_i ha
            simp at h; subst h
            obtain ⟨B, L, hB, hg, hL, rfl⟩ := alive_sound hx ha
            refine ⟨.pointer (some ⟨L.blk, L.base + i * B.sz + o + fd.offset, none⟩), by simp [Instr.fieldAt, run_underlying hund, hfd', Instr.sureAddr, fieldPlace, run_sizeOf_csz hn, add_mk], ?_⟩
            rw [Nat.add_assoc (L.base + i * B.sz)]
            exact .ptr id g i _ B L hB hg hL
          · simp at h
        · rename_i cs
          split at h
          · simp at h; subst h
            obtain ⟨a, rfl, hd⟩ := of_dptr' hx
            exact ⟨.pointer (some (a.add fd.offset)), by simp [Instr.fieldAt, run_underlying hund, hfd', Instr.sureAddr, fieldPlace, run_sizeOf_csz hn], .data _ _ (dptr_drop hd _)⟩
          · simp at h
        · simp at h
      · simp at h
    · simp at h
  · simp at h

theorem indexAddrA_sound {t : TypeId} {x ix : AV} {v iv : Value} (hx : VR w ι H A x v) (hi : VR w ι H A ix iv) {r : AV} (h : indexAddrA P t H x ix = some r) :
    ∃ u, (Instr.indexAt t v iv).run P w = .ok u w ∧ VR w ι H A r u := by
  unfold indexAddrA at h
  split at h
  · rename_i k i
    have := hi.of_int; subst this
    split at h
    · rename_i e htk
      have hund := und_of_tk_slice htk
      split at h
      · rename_i xs
        split at h
        · rename_i h0
          split at h
          · rename_i el hel
            split at h
            · rename_i hcs
              simp at h; subst h
              obtain ⟨base, cap, rfl, hcap, hcase⟩ := lst_sound hx
              have hlt : i.toNat < xs.length := (List.getElem?_eq_some_iff.1 hel).1
              rcases hcase with rfl | ⟨a, sz, rfl, hf, hcell⟩
              · simp at hlt
              · have hel' : el ∈ xs := List.mem_of_getElem? hel
                obtain ⟨h5, h6⟩ := fits_cells (hf el hel')
                have hi' : i < (xs.length : Int) := by omega
                refine ⟨.pointer (some (a.add (i.toNat * sz))), by simp [Instr.indexAt, asIntOf, run_underlying hund, h0, hi', run_sizeOf_csz hcs, h5], ?_⟩
                have hc : ∀ (k : Nat) (c : AV), el.cells[k]? = some c → ∃ u, A a.block ∧ w.cell? (a.add (i.toNat * sz + k)) = some u ∧ DR w A c u := fun k c hk => hcell _ c (flat_getElem? hf hel hk)
                refine .data _ _ (.dptr _ _ (fun k => (w.cell? (a.add (i.toNat * sz + k))).getD undef) h6 (fun k hk => ?_) fun k c hk => ?_)
                · obtain ⟨u, h7, h8, _⟩ := hc k _ (List.getElem?_eq_getElem hk)
                  exact ⟨by rw [add_block]; exact h7, by rw [add_add, h8]; rfl⟩
                · obtain ⟨u, _, h8, h9⟩ := hc k c hk
                  rw [h8]; exact h9
            · simp at h
          · simp at h
        · simp at h
      · rename_i id g off len
        split at h
        · rename_i sz xs hr
          split at h
          · rename_i hc
            obtain ⟨h0, h1, hcs⟩ := hc
            simp at h; subst h
            unfold refEls at hr
            split at hr
            · rename_i B hB
              split at hr
              · rename_i hg
                split at hr
                · rename_i hle
                  simp only [Option.some.injEq, Prod.mk.injEq] at hr
                  obtain ⟨rfl, rfl⟩ := hr
                  rcases hx.of_ref hB hg with ⟨L, o, cap, hL, rfl, e1, e2, e3, e4⟩ | ⟨base, rfl, he, rfl, rfl⟩
                  · refine ⟨.pointer (some ⟨L.blk, o + i.toNat * B.sz, none⟩), by simp [Instr.indexAt, asIntOf, run_underlying hund, h0, h1, run_sizeOf_csz hcs, add_mk], ?_⟩
                    have : o + i.toNat * B.sz = L.base + (off + i.toNat) * B.sz + 0 := by rw [Nat.add_mul]; omega
                    rw [this]
                    exact .ptr id g _ 0 B L hB hg hL
                  · simp at h1; omega
                · simp at hr
              · simp at hr
            · simp at hr
          · simp at h
        · simp at h
      · simp at h
    · rename_i n e htk
      have hund := und_of_tk_arr htk
      split at h
      · rename_i hc
        split at h
        · rename_i sz hcs
          split at h
          · rename_i id g j o
            split at h
            · rename_i ha
              simp at h; subst h
              obtain ⟨B, L, hB, hg, hL, rfl⟩ := alive_sound hx ha
              refine ⟨.pointer (some ⟨L.blk, L.base + j * B.sz + o + i.toNat * sz, none⟩), by simp [Instr.indexAt, asIntOf, run_underlying hund, Instr.sureAddr, hc, run_sizeOf_csz hcs, add_mk], ?_⟩
              rw [Nat.add_assoc (L.base + j * B.sz)]
              exact .ptr id g j _ B L hB hg hL
            · simp at h
          · rename_i cs
            split at h
            · simp at h; subst h
              obtain ⟨a, rfl, hd⟩ := of_dptr' hx
              exact ⟨.pointer (some (a.add (i.toNat * sz))), by simp [Instr.indexAt, asIntOf, run_underlying hund, Instr.sureAddr, hc, run_sizeOf_csz hcs], .data _ _ (dptr_drop hd _)⟩
            · simp at h
          · simp at h
        · simp at h
      · simp at h
    · simp at h
  · simp at h

theorem indexA_sound {t : TypeId} {x ix : AV} {v iv : Value} (hx : VR w ι H A x v) (hi : VR w ι H A ix iv) {r : AV} (h : indexA P t x ix = some r) : ∃ u, (Instr.index t v iv).run P w = .ok u w ∧ VR w ι H A r u := by
  unfold indexA at h
  split at h
  · rename_i k i
    have := hi.of_int; subst this
    split at h
    · rename_i l
      split at h
      · rename_i htk
        split at h
        · rename_i h0
          split at h
          · rename_i b hb
            simp at h; subst h
            obtain ⟨s, rfl, hs⟩ := hx.of_str
            have hb' : s[i.toNat]? = some b := by
              rw [← hs] at hb
              have hlt : i.toNat < s.size := by have := (List.getElem?_eq_some_iff.1 hb).1; simpa using this
              rw [getElem?_pos s i.toNat hlt]
              have : s.data.toList[i.toNat]? = some (s.data.toList[i.toNat]'(by simpa using hlt)) := List.getElem?_eq_getElem _
              rw [this] at hb
              simp at hb ⊢
              exact hb
            exact ⟨.int .u8 b.toNat, by simp [Instr.index, asIntOf, run_underlying (und_of_tk_str htk), h0, hb'], .data _ _ (.int _ _)⟩
          · simp at h
        · simp at h
      · simp at h
    · rename_i cs
      split at h
      · rename_i n e htk
        split at h
        · rename_i sz hcs
          split at h
          · rename_i hc
            obtain ⟨vs, rfl, hl, hv⟩ := hx.of_agg
            obtain ⟨u, h1, h2⟩ := part_sound hl hv h
            exact ⟨u, by simp [Instr.index, asIntOf, run_underlying (und_of_tk_arr htk), hc, run_sizeOf_csz hcs, h1], h2⟩
          · simp at h
        · simp at h
      · simp at h
    · simp at h
  · simp at h

theorem lenA_sound (hH : HR w ι H A B0) {t : TypeId} {x : AV} {v : Value} (hx : VR w ι H A x v) {r : AV} (h : lenA P t H x = some r) (ty : TypeId) : ∃ u, (Builtin.len_ #[t] ty #[v]).run P w = .ok u w ∧ VR w ι H A r u := by
  unfold lenA at h
  split at h
  · rename_i htk
    split at h
    · simp at h; subst h
      obtain ⟨s, rfl, hs⟩ := hx.of_str
      have hsz : s.size = s.data.toList.length := by simp
      rw [hs] at hsz
      exact ⟨_, by simp [Builtin.len_, run_underlying (und_of_tk_str htk), goInt, hsz], .data _ _ (.int _ _)⟩
    · simp at h
  · rename_i htk
    simp at h; subst h
    exact ⟨_, by simp [Builtin.len_, run_underlying (und_of_tk_arr htk), goInt], .data _ _ (.int _ _)⟩
  · rename_i htk
    have hu := und_of_tk_slice htk
    split at h
    · simp at h; subst h
      obtain ⟨base, rfl⟩ := hx.of_nil
      exact ⟨_, by simp [Builtin.len_, run_underlying hu, goInt], .data _ _ (.int _ _)⟩
    · simp at h; subst h
      obtain ⟨base, cap, rfl, _⟩ := lst_sound hx
      exact ⟨_, by simp [Builtin.len_, run_underlying hu, goInt], .data _ _ (.int _ _)⟩
    · rename_i id g off len
      split at h
      · rename_i hs
        simp at h; subst h
        obtain ⟨⟨sz, xs⟩, hr⟩ := Option.isSome_iff_exists.1 hs
        obtain ⟨base, cap, rfl, _⟩ := refEls_sound hH hx hr
        exact ⟨_, by simp [Builtin.len_, run_underlying hu, goInt], .data _ _ (.int _ _)⟩
      · simp at h
    · simp at h
  · simp at h

theorem extractA_sound {x : AV} {v : Value} (hx : VR w ι H A x v) {i : Nat} {r : AV} (h : extractA x i = some r) : ∃ u, (Instr.extract v i).run P w = .ok u w ∧ VR w ι H A r u := by
  unfold extractA at h
  split at h
  · obtain ⟨vs, rfl, hl, hv⟩ := hx.of_tup
    have hlt : i < vs.size := by have := (List.getElem?_eq_some_iff.1 h).1; omega
    exact ⟨vs[i], by simp [Instr.extract, hlt], hv i r _ h (by simp [hlt])⟩
  · simp at h

theorem unbytes_sound {vs : List Value} : ∀ {els : List AV} {l : List UInt8}, unbytes els = some l → (∀ (j : Nat) (c : AV) (u : Value), els[j]? = some c → vs[j]? = some u → VR w ι H A c u) → vs.length = els.length →
    ∃ ns : List Int, vs = ns.map (Value.int .u8) ∧ l = ns.map fun n => UInt8.ofNat n.toNat := by
  intro els
  induction els generalizing vs with
  | nil => intro l h _ hl; simp [unbytes] at h; subst h; simp at hl; subst hl; exact ⟨[], rfl, rfl⟩
  | cons e els ih =>
    intro l h hv hl
    unfold unbytes at h
    split at h
    · rename_i heq; cases heq
    · rename_i n l' heq
      cases heq
      cases vs with
      | nil => simp at hl
      | cons v vs =>
        cases hr : unbytes els with
        | none => simp [hr] at h
        | some r =>
          simp [hr] at h; subst h
          obtain ⟨ns, h1, h2⟩ := ih (vs := vs) hr (fun j c u hj hu => hv (j + 1) c u (by simpa using hj) (by simpa using hu)) (by simpa using hl)
          have := (hv 0 (.int .u8 n) v (by simp) (by simp)).of_int
          subst this
          exact ⟨n :: ns, by simp [h1], by simp [h2]⟩
    · simp at h

theorem push_foldl (ns : List Int) : ∀ s : ByteArray, (ns.foldl (fun r n => r.push (UInt8.ofNat n.toNat)) s).data.toList = s.data.toList ++ ns.map fun n => UInt8.ofNat n.toNat := by
  induction ns with
  | nil => simp
  | cons n ns ih => intro s; simp [ih]

theorem flat_of_unbytes : ∀ {els : List AV} {l : List UInt8}, unbytes els = some l → flat els = els := by
  intro els
  induction els with
  | nil => simp [flat]
  | cons e els ih =>
    intro l h
    unfold unbytes at h
    split at h
    · rename_i heq; cases heq
    · rename_i heq
      cases heq
      cases hr : unbytes els with
      | none => simp [hr] at h
      | some r =>
        have := ih hr
        simp only [flat, List.flatMap_cons, AV.cells, List.cons_append, List.nil_append] at this ⊢
        rw [this]
    · simp at h

theorem convA_sound (hH : HR w ι H A B0) {src dst : TypeId} {x : AV} {v : Value} (hx : VR w ι H A x v) {r : AV} (h : convA P src dst H x = some (.val r)) : ∃ u, (convert src dst v).run P w = .ok u w ∧ VR w ι H A r u := by
  unfold convA at h
  split at h
  · rename_i k n
    split at h
    · rename_i k0 hs
      split at h
      · rename_i k' htk
        simp at h; subst h
        have := hx.of_int; subst this
        exact ⟨.int k' (k'.wrap n), by simp [convert, run_underlying (und_of_tk_int hs), run_underlying (und_of_tk_int htk), Conv.intToInt], .data _ _ (.int _ _)⟩
      · simp at h
    · simp at h
  · rename_i l
    split at h
    · rename_i hs
      split at h
      · rename_i hd
        simp at h; subst h
        obtain ⟨s, rfl, e⟩ := hx.of_str
        exact ⟨.string s, by simp [convert, run_underlying (und_of_tk_str hs), run_underlying (und_of_tk_str hd)], .data _ _ (.str _ _ e)⟩
      · split at h <;> simp at h
      · simp at h
    · simp at h
  · split at h
    · rename_i e hs hd
      split at h
      · rename_i he
        split at h
        · rename_i els hsrc
          cases hu : unbytes els with
          | none => simp [hu] at h
          | some l =>
            simp [hu] at h; subst h
            obtain ⟨h1, h2, h3⟩ := srcEls_sound (P := P) hH hx hsrc
            obtain ⟨us, hul, hrun, hv, h1c⟩ := h3 els.length (Nat.le_refl _)
            have hrun := hrun w rfl
            rw [flat_of_unbytes hu] at hv
            obtain ⟨ns, rfl, rfl⟩ := unbytes_sound (vs := us) hu hv (by omega)
            have hconv : ∀ a len cap, (convert src dst (.slice a len cap)).run P w = (Conv.bytesToString (.slice a len cap)).run P w := fun a len cap => run_convert_bytes_string w src dst e a len cap (und_of_tk_slice hs) (und_of_tk_int he) (und_of_tk_str hd)
            have fin : ∀ (base : Option Addr) (len cap : Nat), v = .slice base len cap → ∃ u, (convert src dst v).run P w = .ok u w ∧ VR w ι H A (.str (ns.map fun n => UInt8.ofNat n.toNat)) u := by
              rintro base len cap rfl
              rw [hconv]
              have hlen : len = els.length := by simp [Builtin.lenOf] at h1; exact h1
              cases base with
              | none =>
                simp only [Builtin.firstCells, Sem.run_pure, Result.ok.injEq] at hrun
                have : ns = [] := by
                  have := congrArg Array.size hrun.1
                  simp at this
                  exact List.eq_nil_of_length_eq_zero this.symm
                subst this
                exact ⟨.string .empty, by simp [Conv.bytesToString], .data _ _ (.str _ _ rfl)⟩
              | some a =>
                simp only [Builtin.firstCells, Nat.mul_one] at hrun
                rw [← hlen] at hrun
                refine ⟨_, run_bytesToString w a len cap ns hrun, .data _ _ (.str _ _ ?_)⟩
                rw [push_foldl]; rfl
            unfold srcEls at hsrc
            split at hsrc
            · obtain ⟨base, hb⟩ := hx.of_nil
              exact fin base 0 0 hb
            · obtain ⟨base, cap, hb, _⟩ := lst_sound hx
              exact fin base _ cap hb
            · rename_i id g off len
              split at hsrc
              · rename_i hr
                obtain ⟨base, cap, hb, _⟩ := refEls_sound hH hx hr
                exact fin base _ cap hb
              · simp at hsrc
            · exfalso
              first
                | (rename_i a; exact absurd rfl (a _))
                | (rename_i a _; exact absurd rfl (a _))
                | (rename_i a _ _; exact absurd rfl (a _))
                | (rename_i a _ _ _; exact absurd rfl (a _))
            · simp at hsrc
        · simp at h
      · simp at h
    · simp at h

theorem nilCheckA_sound {x : AV} {v : Value} (hx : VR w ι H A x v) {r : AV} (h : nilCheckA H x = some r) : VR w ι H A r v ∧ (∃ a, v = .pointer (some a)) ∨ (VR w ι H A r v ∧ ∃ f c, v = .func (.func f) #[] c) := by
  unfold nilCheckA at h
  split at h
  · split at h
    · rename_i ha
      simp at h; subst h
      obtain ⟨B, L, hB, hg, hL, rfl⟩ := alive_sound hx ha
      exact .inl ⟨hx, _, rfl⟩
    · simp at h
  · simp at h; subst h
    obtain ⟨a, rfl, _⟩ := of_dptr' hx
    exact .inl ⟨hx, a, rfl⟩
  · simp at h; subst h
    obtain ⟨vs, rfl, _⟩ := hx.of_func
    exact .inr ⟨hx, _, _, rfl⟩
  · simp at h
end
end Go.Ab

/- Struct literals; and all operations that make no block, in one statement. -/
namespace Go.Ab
open Go.RowKit
section
variable {P : Program} {w : World} {ι : Plc} {H : Heap} {A : Nat → Prop} {B0 : Nat}

theorem foldl_set_get (off : Nat) : ∀ (l : List Value) (n : Nat) (us : Array Value) (k : Nat), off + n + l.length ≤ us.size →
    ((l.zipIdx n).foldl (fun cs (x : Value × Nat) => cs.setIfInBounds (off + x.2) x.1) us)[k]? = if off + n ≤ k ∧ k < off + n + l.length then l[k - (off + n)]? else us[k]? := by
  intro l
  induction l with
  | nil => intro n us k _; simp; omega
  | cons v l ih =>
    intro n us k h
    simp only [List.zipIdx_cons, List.foldl_cons]
    rw [ih (n + 1) _ k (by simp at h ⊢; omega)]
    simp only [List.length_cons] at h ⊢
    by_cases hk : k = off + n
    · subst hk
      rw [if_neg (by omega), if_pos (by omega), Array.getElem?_setIfInBounds_self_of_lt (by omega)]
      simp
    · by_cases h1 : off + n ≤ k ∧ k < off + n + (l.length + 1)
      · rw [if_pos (by omega), if_pos h1, show k - (off + n) = (k - (off + (n + 1))) + 1 by omega, List.getElem?_cons_succ]
      · rw [if_neg (by omega), if_neg h1, Array.getElem?_setIfInBounds_ne (by omega)]

theorem foldl_set_size (off : Nat) : ∀ (l : List Value) (n : Nat) (us : Array Value), ((l.zipIdx n).foldl (fun cs (x : Value × Nat) => cs.setIfInBounds (off + x.2) x.1) us).size = us.size := by
  intro l
  induction l with
  | nil => simp
  | cons v l ih => intro n us; simp only [List.zipIdx_cons, List.foldl_cons]; rw [ih]; simp

def AggR (w : World) (ι : Plc) (H : Heap) (A : Nat → Prop) (cs : List AV) (us : Array Value) : Prop :=
  cs.length = us.size ∧ ∀ (k : Nat) (c : AV) (u : Value), cs[k]? = some c → us[k]? = some u → VR w ι H A c u

theorem AggR.put {cs : List AV} {us : Array Value} (h : AggR w ι H A cs us) {v : AV} {u : Value} (hv : VR w ι H A v u) {n off : Nat} (hf : v.fits n = true) (ho : off + n ≤ cs.length) :
    u.cells.size = n ∧ AggR w ι H A (cs.take off ++ v.cells ++ cs.drop (off + n)) (u.cells.zipIdx.foldl (fun cs (x : Value × Nat) => cs.setIfInBounds (off + x.2) x.1) us) := by
  obtain ⟨h1, h2, _⟩ := hv.cells hf
  have hvl := (fits_cells hf).1
  have hl := h.1
  refine ⟨h1, ?_, fun k c x hk hx => ?_⟩
  · rw [← Array.foldl_toList, Array.toList_zipIdx, foldl_set_size]
    simp; omega
  · rw [← Array.foldl_toList, Array.toList_zipIdx, foldl_set_get off u.cells.toList 0 us k (by simp; omega)] at hx
    simp only [Nat.add_zero, Array.length_toList] at hx
    split at hx
    · rename_i hc
      rw [List.append_assoc, List.getElem?_append_right (by simp; omega), List.getElem?_append_left (by simp; omega)] at hk
      simp only [List.length_take, Nat.min_eq_left (show off ≤ cs.length by omega)] at hk
      obtain ⟨y, hy, hr⟩ := h2 _ c hk
      simp only [Array.getElem?_toList] at hx
      rw [hy] at hx; simp at hx; subst hx; exact hr
    · rename_i hc
      refine h.2 k c x ?_ hx
      rw [← hk]
      by_cases hlt : k < off
      · rw [List.append_assoc, List.getElem?_append_left (by simp; omega), List.getElem?_take_of_lt hlt]
      · rw [List.getElem?_append_right (by simp; omega), List.getElem?_drop]
        congr 1
        simp; omega

theorem fill_sound {ρ : Operand → AV} {σ : Operand → Value} (hρ : ∀ x, VR w ι H A (ρ x) (σ x)) {pl : Nat → Option (Nat × Nat)} : ∀ (parts : List (Nat × Operand)) (cs : List AV) (us : Array Value) (r : List AV), AggR w ι H A cs us →
    fillA pl cs (parts.map fun p => (p.1, ρ p.2)) = some r → ∃ us', Instr.fill pl us (parts.map fun p => (p.1, σ p.2)) = some us' ∧ AggR w ι H A r us' := by
  intro parts
  induction parts with
  | nil => intro cs us r h hf; simp [fillA] at hf; subst hf; exact ⟨us, rfl, h⟩
  | cons p parts ih =>
    intro cs us r h hf
    simp only [List.map_cons, fillA] at hf
    split at hf
    · rename_i off n hp
      split at hf
      · rename_i hc
        obtain ⟨hfit, hle⟩ := hc
        obtain ⟨hs, hput⟩ := h.put (hρ p.2) hfit hle
        obtain ⟨us', h1, h2⟩ := ih _ _ r hput hf
        refine ⟨us', ?_, h2⟩
        have hl := h.1
        simp only [List.map_cons, Instr.fill, hp]
        rw [if_neg (by simp; omega)]
        exact h1
      · simp at hf
    · simp at hf

theorem AggR_const (cs : Array Value) : AggR w ι H A (cs.toList.map ofCell) cs := by
  have := DR.const (w := w) (A := A) (.agg cs)
  simp only [ofConst] at this
  cases this with
  | agg _ _ e h => exact ⟨e, fun k c u h1 h2 => .data _ _ (h k c u h1 h2)⟩

theorem mapM_places {fs : List Field} : ∀ {l : List (Nat × Nat)}, (fs.map fun f => (f.type, f.offset)).mapM (fun x => (csz P x.1).map fun n => (x.2, n)) = some l →
    ∀ w : World, (fs.mapM (m := Sem) fun f => do pure (f.offset, ← sizeOf f.type)).run P w = .ok l w := by
  induction fs with
  | nil => intro l h w; simp at h; subst h; simp
  | cons f fs ih =>
    intro l h w
    simp only [List.map_cons, List.mapM_cons] at h
    cases hc : csz P f.type with
    | none => simp [hc] at h
    | some n =>
      cases hr : (fs.map fun f => (f.type, f.offset)).mapM (fun x => (csz P x.1).map fun n => (x.2, n)) with
      | none => simp [hc, hr] at h
      | some l' =>
        simp [hc, hr] at h; subst h
        have := ih hr w
        simp only [List.mapM_cons, Sem.run_bind, run_sizeOf_csz hc, Result.andThen_ok, Sem.run_pure, this]

theorem build_sound {ρ : Operand → AV} {σ : Operand → Value} (hρ : ∀ x, VR w ι H A (ρ x) (σ x)) {t : TypeId} {parts : Array (Nat × Operand)} {z : List AV} {pl : Nat → Option (Nat × Nat)} {cs : List AV}
    (hz : zro P t = some (.agg z)) (hp : plcF P t = some pl) (h : fillA pl z (parts.toList.map fun p => (p.1, ρ p.2)) = some cs) :
    ∃ u, (Instr.build t (parts.map fun (i, x) => (i, σ x))).run P w = .ok u w ∧ VR w ι H A (.agg cs) u := by
  obtain ⟨i, v, hi, hzv, hzc⟩ := zero_of_zro hz
  have hvc : ∃ us, v = .agg us ∧ z = us.toList.map ofCell := by
    unfold ofConst at hzc
    split at hzc
    · simp at hzc; exact ⟨_, rfl, hzc⟩
    · rename_i hno
      unfold ofCell at hzc
      split at hzc <;> simp at hzc
  obtain ⟨us, rfl, rfl⟩ := hvc
  obtain ⟨us', h1, h2⟩ := fill_sound hρ parts.toList _ us cs (AggR_const us) h
  have hparts : (parts.map fun (x : Nat × Operand) => (x.1, σ x.2)).toList = parts.toList.map fun p => (p.1, σ p.2) := by simp
  refine ⟨.agg us', ?_, .agg _ _ h2.1 h2.2⟩
  have hzr : (zeroValue t).run P w = .ok (.agg us) w := by simp [zeroValue, typeInfo, hi, hzv]
  unfold plcF at hp
  split at hp
  · rename_i fs htk
    obtain ⟨fs', hund, rfl⟩ := und_of_tk_struct htk
    cases hl : plc P t with
    | none => simp [hl] at hp
    | some l =>
      simp [hl] at hp; subst hp
      simp only [plc, htk] at hl
      have hm := mapM_places hl w
      have hm' : (fs'.mapM (m := Sem) fun f => do pure (f.offset, ← sizeOf f.type)).run P w = .ok l.toArray w := by
        rw [Array.mapM_eq_mapM_toList, Sem.run_map, hm]
        rfl
      simp only [Instr.build, Sem.run_bind, hzr, Result.andThen_ok, run_underlying hund, hm', Value.cells, List.getElem?_toArray]
      rw [hparts, h1]
      simp
  · rename_i n e htk
    have hund := und_of_tk_arr htk
    cases hc : csz P e with
    | none => simp [hc] at hp
    | some s =>
      simp [hc] at hp; subst hp
      simp only [Instr.build, Sem.run_bind, hzr, Result.andThen_ok, run_underlying hund, run_sizeOf_csz hc, Value.cells]
      rw [hparts, h1]
      simp
  · simp at hp

theorem bi_len (hH : HR w ι H A B0) {ρ : Operand → AV} {σ : Operand → Value} (hρ : ∀ x, VR w ι H A (ρ x) (σ x)) (o : Oper) {x : Operand} {t : TypeId} (ho : o.op = .call { callee := .builtin .len, args := #[x], argTypes := #[t] }) {r : AV} (h : (lenA P t H (ρ x)).map Out.val = some (.val r)) :
    ∃ u, (execOp σ o).run P w = .ok (.value u) w ∧ VR w ι H A r u := by
  unfold execOp
  cases hb : lenA P t H (ρ x) with
  | none => simp [hb] at h
  | some v =>
    simp [hb] at h; subst h
    obtain ⟨z, h1, h2⟩ := lenA_sound (P := P) hH (hρ x) hb o.type
    exact ⟨z, by simp [ho, resolve, invoke, builtin, h1], h2⟩

theorem bi_append (hH : HR w ι H A B0) {ρ : Operand → AV} {σ : Operand → Value} (hρ : ∀ x, VR w ι H A (ρ x) (σ x)) (o : Oper) {s x : Operand} {t t' : TypeId} (ho : o.op = .call { callee := .builtin .append, args := #[s, x], argTypes := #[t, t'] }) (hd : (∃ e', P.underlying t' = some (.slice e')) ∨ P.underlying t' = some .string) {r : AV} (h : appendA P t H (ρ s) (ρ x) = some (.val r)) :
    ∃ u, (execOp σ o).run P w = .ok (.value u) w ∧ VR w ι H A r u := by
  unfold execOp
  unfold appendA at h
  split at h
  · rename_i e htk
    split at h
    · rename_i n by_ z hn hb hz
      split at h
      · split at h
        · rename_i new hsrc
          split at h
          · rename_i hs
            split at h
            · rename_i hne
              simp at h; subst h
              obtain ⟨base, eb⟩ := (hs ▸ hρ s).of_nil
              obtain ⟨h1, _, h3⟩ := srcEls_sound (P := P) hH (hρ x) hsrc
              obtain ⟨us, hul, hrun, _⟩ := h3 0 (by simp)
              have hrun := hrun w rfl
              have hu0 : us = [] := List.eq_nil_of_length_eq_zero (by simpa using hul)
              subst hu0
              rw [hne] at h1
              simp at h1
              refine ⟨.slice base 0 0, ?_, .data _ _ (.nil _)⟩
              cases base with
              | none => rcases hd with ⟨e', hd⟩ | hd <;> simp [ho, resolve, invoke, builtin, Builtin.append_, run_underlying (und_of_tk_slice htk), eb, run_sizeOf_csz hn, run_underlying hd, h1, hrun]
              | some a => rcases hd with ⟨e', hd⟩ | hd <;> simp [ho, resolve, invoke, builtin, Builtin.append_, run_underlying (und_of_tk_slice htk), eb, run_sizeOf_csz hn, run_underlying hd, h1, hrun, storeCells]
            · split at h <;> simp at h
          · split at h
            · split at h <;> simp at h
            · simp at h
          · simp at h
        · simp at h
      · simp at h
    · simp at h
  · simp at h

theorem bi_copy (hH : HR w ι H A B0) {ρ : Operand → AV} {σ : Operand → Value} (hρ : ∀ x, VR w ι H A (ρ x) (σ x)) (o : Oper) {dd x : Operand} {t t' : TypeId} (ho : o.op = .call { callee := .builtin .copy, args := #[dd, x], argTypes := #[t, t'] }) {r : AV} (h : copyA P t H (ρ dd) (ρ x) = some (.val r)) :
    ∃ u, (execOp σ o).run P w = .ok (.value u) w ∧ VR w ι H A r u := by
  unfold copyA at h
  split at h
  · rename_i e htk
    split at h
    · rename_i n hn
      split at h
      · rename_i src hsrc
        obtain ⟨h1, _, h3⟩ := srcEls_sound (P := P) hH (hρ x) hsrc
        obtain ⟨us, hul, hrun, _⟩ := h3 0 (by simp)
        have hrun := hrun w rfl
        have hu0 : us = [] := List.eq_nil_of_length_eq_zero (by simpa using hul)
        subst hu0
        have fin : ∀ base len cap, σ dd = .slice base len cap → min src.length len = 0 → ∃ u, (execOp σ o).run P w = .ok (.value u) w ∧ VR w ι H A (.int .i64 0) u := by
          intro base len cap eb hm
          refine ⟨.int .i64 0, ?_, .data _ _ (.int _ _)⟩
          have hm' : Nat.min src.length len = 0 := hm
          cases base with
          | none => simp [execOp, ho, resolve, invoke, builtin, Builtin.copy_, run_underlying (und_of_tk_slice htk), eb, run_sizeOf_csz hn, h1, hm', hrun, goInt]
          | some a => simp [execOp, ho, resolve, invoke, builtin, Builtin.copy_, run_underlying (und_of_tk_slice htk), eb, run_sizeOf_csz hn, h1, hm', hrun, goInt, storeCells]
        split at h
        · split at h
          · split at h <;> simp at h
          · simp at h
        · rename_i hd
          simp at h; subst h
          obtain ⟨base, eb⟩ := (hd ▸ hρ dd).of_nil
          exact fin base 0 0 eb (by simp)
        · rename_i xs hd
          split at h
          · rename_i hc
            simp at h; subst h
            obtain ⟨base, cap, eb, _⟩ := lst_sound (hd ▸ hρ dd)
            exact fin base _ cap eb (by rcases hc with rfl | rfl <;> simp)
          · simp at h
        · simp at h
      · simp at h
    · simp at h
  · simp at h

theorem bi_min {ρ : Operand → AV} {σ : Operand → Value} (hρ : ∀ x, VR w ι H A (ρ x) (σ x)) (o : Oper) {x y : Operand} {ts : Array TypeId} (ho : o.op = .call { callee := .builtin .min, args := #[x, y], argTypes := ts }) {r : AV} (h : (minA (ρ x) (ρ y)).map Out.val = some (.val r)) :
    ∃ u, (execOp σ o).run P w = .ok (.value u) w ∧ VR w ι H A r u := by
  unfold execOp
  cases hb : minA (ρ x) (ρ y) with
  | none => simp [hb] at h
  | some v =>
    simp [hb] at h; subst h
    unfold minA at hb
    split at hb
    · rename_i k a k' b hx hy
      simp at hb; subst hb
      have e1 := (hx ▸ hρ x).of_int
      have e2 := (hy ▸ hρ y).of_int
      exact ⟨_, by simp [ho, resolve, invoke, builtin, e1, e2, run_min_int2], .data _ _ (.int _ _)⟩
    · simp at hb

theorem bi_max {ρ : Operand → AV} {σ : Operand → Value} (hρ : ∀ x, VR w ι H A (ρ x) (σ x)) (o : Oper) {x y : Operand} {ts : Array TypeId} (ho : o.op = .call { callee := .builtin .max, args := #[x, y], argTypes := ts }) {r : AV} (h : (maxA (ρ x) (ρ y)).map Out.val = some (.val r)) :
    ∃ u, (execOp σ o).run P w = .ok (.value u) w ∧ VR w ι H A r u := by
  unfold execOp
  cases hb : maxA (ρ x) (ρ y) with
  | none => simp [hb] at h
  | some v =>
    simp [hb] at h; subst h
    unfold maxA at hb
    split at hb
    · rename_i k a k' b hx hy
      simp at hb; subst hb
      have e1 := (hx ▸ hρ x).of_int
      have e2 := (hy ▸ hρ y).of_int
      exact ⟨_, by simp [ho, resolve, invoke, builtin, e1, e2, run_max_int2], .data _ _ (.int _ _)⟩
    · simp at hb

theorem biA_val (hH : HR w ι H A B0) {ρ : Operand → AV} {σ : Operand → Value} (hρ : ∀ x, VR w ι H A (ρ x) (σ x)) (o : Oper) {b : Builtin} {args : List Operand} {ts : List TypeId}
    (ho : o.op = .call { callee := .builtin b, args := args.toArray, argTypes := ts.toArray }) {r : AV} (h : biA P b args ts ρ H = some (.val r)) : ∃ u, (execOp σ o).run P w = .ok (.value u) w ∧ VR w ι H A r u := by
  unfold biA at h
  split at h
  · split at h
    · exact bi_len hH hρ o ho h
    · simp at h
  · split at h
    · split at h
      · split at h
        · rename_i htk; exact bi_append hH hρ o ho (.inl ⟨_, und_of_tk_slice htk⟩) h
        · rename_i htk; exact bi_append hH hρ o ho (.inr (und_of_tk_str htk)) h
        · simp at h
      · simp at h
    · split at h
      · exact bi_copy hH hρ o ho h
      · simp at h
    · exact bi_min hρ o ho h
    · exact bi_max hρ o ho h
    · simp at h
  · simp at h

/-- All operations that make no block and turn none. -/
theorem aop_val (hH : HR w ι H A B0) {ρ : Operand → AV} {σ : Operand → Value} (hρ : ∀ x, VR w ι H A (ρ x) (σ x)) (o : Oper) {r : AV} (h : aop P o.op ρ H = some (.val r)) :
    ∃ u, (execOp σ o).run P w = .ok (.value u) w ∧ VR w ι H A r u := by
  unfold aop at h
  unfold execOp
  split at h
  case h_1 | h_2 =>
    rename_i x ho
    simp at h; subst h
    exact ⟨σ x, by simp [ho], hρ x⟩
  case h_3 =>
    rename_i c a b ho
    split at h
    · rename_i t hc
      simp at h; subst h
      have := hρ c; rw [hc] at this
      have := this.of_bool
      refine ⟨if t then σ a else σ b, by simp [ho, asBool, this], ?_⟩
      cases t <;> simp <;> exact hρ _
    · simp at h
  case h_4 => split at h <;> (try split at h) <;> simp at h
  case h_5 => split at h <;> simp at h
  case h_6 =>
    rename_i t parts ho
    split at h
    · rename_i z hz
      split at h
      · rename_i pl hp
        cases hf : fillA pl z (parts.toList.map fun p => (p.1, ρ p.2)) with
        | none => simp [hf] at h
        | some cs =>
          simp [hf] at h; subst h
          obtain ⟨u, h1, h2⟩ := build_sound (P := P) hρ hz hp hf
          exact ⟨u, by simp [ho, h1], h2⟩
      · simp at h
    · simp at h
  case h_7 =>
    split at h
    · split at h
      · split at h
        · rw [Option.map_eq_some_iff] at h
          obtain ⟨_, _, h⟩ := h
          cases h
        · simp at h
      · simp at h
    · simp at h
  case h_8 =>
    rename_i t a ho
    split at h
    · rename_i cs hc
      cases hl : loadA P t cs with
      | none => simp [hl] at h
      | some v =>
        simp [hl] at h; subst h
        obtain ⟨ad, e, hcell⟩ := cellsAt_sound hH (hρ a) hc
        obtain ⟨u, h1, h2⟩ := loadVar_sound (P := P) hcell hl
        exact ⟨u, by simp [ho, Instr.loadAt, Instr.sureAddr, e, h1], h2⟩
    · simp at h
  case h_9 =>
    unfold storeA at h
    (repeat' split at h) <;> simp at h
  case h_10 =>
    rename_i x ho
    cases hn : nilCheckA H (ρ x) with
    | none => simp [hn] at h
    | some v =>
      simp [hn] at h; subst h
      rcases nilCheckA_sound (hρ x) hn with ⟨h1, a, e⟩ | ⟨h1, f, c, e⟩
      · exact ⟨σ x, by simp [ho, e], h1⟩
      · exact ⟨σ x, by simp [ho, e], h1⟩
  case h_11 =>
    rename_i op t x y yt ho
    cases hb : binA P op t (ρ x) (ρ y) with
    | none => simp [hb] at h
    | some v =>
      simp [hb] at h; subst h
      obtain ⟨z, h1, h2⟩ := binA_sound (P := P) (hρ x) (hρ y) hb x y
      refine ⟨z, ?_, h2⟩
      simp only [ho, Sem.run_bind, h1, Result.andThen_ok, Sem.run_pure]
  case h_12 =>
    rename_i op t x ho
    cases hb : unA op (ρ x) with
    | none => simp [hb] at h
    | some v =>
      simp [hb] at h; subst h
      obtain ⟨z, h1, h2⟩ := unA_sound (P := P) (hρ x) hb
      exact ⟨z, by simp [ho, h1], h2⟩
  case h_13 =>
    rename_i src dst x ho
    obtain ⟨z, h1, h2⟩ := convA_sound (P := P) hH (hρ x) h
    exact ⟨z, by simp [ho, h1], h2⟩
  case h_14 =>
    rename_i fn first caps ho
    unfold mkFuncA at h
    split at h
    · rename_i f
      split at h
      · rename_i hfirst
        simp at h; subst h
        have hf : first = #[] := by apply Array.ext'; simpa using hfirst
        subst hf
        refine ⟨.func (.func f) #[] (caps.map σ), by simp [ho, Instr.makeFunc], .func _ _ _ (by simp) fun k c v h1 h2 => ?_⟩
        simp only [List.getElem?_map, Option.map_eq_some_iff, Array.getElem?_toList, Array.getElem?_map] at h1 h2
        obtain ⟨x, hx, rfl⟩ := h1
        obtain ⟨y, hy, rfl⟩ := h2
        rw [hx] at hy; cases hy
        exact hρ x
      · simp at h
    · simp at h
  case h_15 =>
    unfold makeSliceA at h
    (repeat' split at h) <;> simp at h
  case h_16 =>
    rename_i t x lo hi mx ho
    cases hb : sliceA P t H ρ (ρ x) lo hi mx with
    | none => simp [hb] at h
    | some v =>
      simp [hb] at h; subst h
      obtain ⟨z, h1, h2⟩ := sliceA_sound (P := P) hH hρ (hρ x) hb
      exact ⟨z, by simp [ho, h1], h2⟩
  case h_17 =>
    rename_i t x f ho
    cases hb : fieldAddrA P t H (ρ x) f with
    | none => simp [hb] at h
    | some v =>
      simp [hb] at h; subst h
      obtain ⟨z, h1, h2⟩ := fieldAddrA_sound (P := P) (hρ x) hb
      exact ⟨z, by simp [ho, h1], h2⟩
  case h_18 =>
    rename_i t x f ho
    split at h
    · rename_i fs cs htk hx
      split at h
      · rename_i ft off hf
        cases hp : partA P ft cs off with
        | none => simp [hp] at h
        | some v =>
          simp [hp] at h; subst h
          obtain ⟨fs', hund, rfl⟩ := und_of_tk_struct htk
          simp only [List.getElem?_map, Option.map_eq_some_iff, Prod.mk.injEq] at hf
          obtain ⟨fd, hfd, rfl, rfl⟩ := hf
          have hfd' : fs'[f]? = some fd := by simpa using hfd
          have hv := hρ x; rw [hx] at hv
          obtain ⟨vs, e, hl, hvs⟩ := hv.of_agg
          obtain ⟨u, h1, h2⟩ := part_sound (P := P) hl hvs hp
          exact ⟨u, by simp [ho, Instr.field, run_underlying hund, hfd', e, asAgg, h1], h2⟩
      · simp at h
    · simp at h
  case h_19 =>
    rename_i t x ix ho
    cases hb : indexAddrA P t H (ρ x) (ρ ix) with
    | none => simp [hb] at h
    | some v =>
      simp [hb] at h; subst h
      obtain ⟨z, h1, h2⟩ := indexAddrA_sound (P := P) (hρ x) (hρ ix) hb
      exact ⟨z, by simp [ho, h1], h2⟩
  case h_20 =>
    rename_i t x ix ho
    cases hb : indexA P t (ρ x) (ρ ix) with
    | none => simp [hb] at h
    | some v =>
      simp [hb] at h; subst h
      obtain ⟨z, h1, h2⟩ := indexA_sound (P := P) (hρ x) (hρ ix) hb
      exact ⟨z, by simp [ho, h1], h2⟩
  case h_21 =>
    rename_i x i ho
    cases hb : extractA (ρ x) i with
    | none => simp [hb] at h
    | some v =>
      simp [hb] at h; subst h
      obtain ⟨z, h1, h2⟩ := extractA_sound (P := P) (hρ x) hb
      exact ⟨z, by simp [ho, h1], h2⟩
  case h_22 =>
    rename_i c ho
    split at h
    · rename_i b hb
      obtain ⟨callee, args, argTypes⟩ := c
      simp only at hb h; subst hb
      obtain ⟨args⟩ := args
      obtain ⟨ts⟩ := argTypes
      have := biA_val hH hρ o ho h
      unfold execOp at this
      exact this
    · simp at h
  case h_23 => simp at h
end
end Go.Ab

/- Operations that make a block, or turn one of our own. -/
namespace Go.Ab
open Go.RowKit
section
variable {P : Program} {w w' : World} {ι : Plc} {H : Heap} {A0 : Nat → Prop} {B0 : Nat}

theorem VR.heap {x : AV} {v : Value} (h : VR w ι H (Al A0 B0 w ι H) x v) (e : w'.heap = w.heap) : VR w' ι H (Al A0 B0 w' ι H) x v :=
  h.ev ⟨by rw [e]; exact Nat.le_refl _, fun b _ _ => by rw [e], fun _ _ h => h, fun _ B h => ⟨B, h, Nat.le_refl _, fun _ => ⟨rfl, Nat.le_refl _, fun _ h => h, fun h => h⟩⟩⟩
theorem Ev.heap (e : w'.heap = w.heap) : Ev w ι H w' ι H :=
  ⟨by rw [e]; exact Nat.le_refl _, fun b _ _ => by rw [e], fun _ _ h => h, fun _ B h => ⟨B, h, Nat.le_refl _, fun _ => ⟨rfl, Nat.le_refl _, fun _ h => h, fun h => h⟩⟩⟩

/-- A block of which the world has not turned. -/
theorem BlkR.ev {ι' : Plc} {H' : Heap} {B : Blk} {L : Loc} (h : BlkR w ι H (Al A0 B0 w ι H) B0 B L) (hev : Ev w ι H w' ι' H') (e : w'.heap[L.blk]? = w.heap[L.blk]?) : BlkR w' ι' H' (Al A0 B0 w' ι' H') B0 B L := by
  obtain ⟨c, t, fr, h1, h2, h3⟩ := h.row
  refine ⟨⟨c, t, fr, by rw [e]; exact h1, h2, fun k x hk => ?_⟩, h.low, h.len, h.fit, fun ho => ?_⟩
  · obtain ⟨v, h4, h5⟩ := h3 k x hk
    exact ⟨v, h4, h5.ev hev⟩
  · obtain ⟨h4, h5⟩ := h.free ho
    exact ⟨h4, fun o ho1 ho2 => by rw [World.frozen?_of_block (w := w) e]; exact h5 o ho1 ho2⟩

theorem BlkR.lt {A : Nat → Prop} {B : Blk} {L : Loc} (h : BlkR w ι H A B0 B L) : L.blk < w.heap.size := by
  obtain ⟨c, t, fr, h1, _⟩ := h.row
  exact (Array.getElem?_eq_some_iff.1 h1).1

theorem HR.heap (h : HR w ι H (Al A0 B0 w ι H) B0) (e : w'.heap = w.heap) : HR w' ι H (Al A0 B0 w' ι H) B0 :=
  ⟨fun id B L h1 h2 => (h.blk id B L h1 h2).ev (Ev.heap e) (by rw [e]), h.sep⟩

/-- A new block, laid at the end of the heap, for an id that has had no place yet. -/
theorem alloc_ok (hH : HR w ι H (Al A0 B0 w ι H) B0) {id : Nat} {B : Blk} (hB : H id = some B) (hι : ι id = none) (hB0 : B0 ≤ w.heap.size) {c : Array Value} {e : TypeId} {fr : Nat × Nat} {cap : Nat}
    (hw : ∀ k, k < w.heap.size → w'.heap[k]? = w.heap[k]?) (hnew : w'.heap[w.heap.size]? = some (.cells c e fr)) (hsz : w'.heap.size = w.heap.size + 1) (hcap : cap * B.sz ≤ c.size) (hlen : B.els.length ≤ cap)
    (hfit : ∀ x ∈ B.els, x.fits B.sz = true) (hcells : ∀ (k : Nat) (x : AV), (flat B.els)[k]? = some x → ∃ v, c[k]? = some v ∧ VR w ι H (Al A0 B0 w ι H) x v) (hfr : ∀ o, o < cap * B.sz → w'.frozen? ⟨w.heap.size, o, none⟩ = false) :
    Ev w ι H w' (upd ι id (some ⟨w.heap.size, 0, cap⟩)) H ∧ HR w' (upd ι id (some ⟨w.heap.size, 0, cap⟩)) H (Al A0 B0 w' (upd ι id (some ⟨w.heap.size, 0, cap⟩)) H) B0 := by
  have hev : Ev w ι H w' (upd ι id (some ⟨w.heap.size, 0, cap⟩)) H := by
    refine ⟨by omega, fun b hb _ => hw b hb, fun b hb hn i C L h1 h2 h3 => ?_, fun i C hC => ⟨C, hC, Nat.le_refl _, fun _ => ⟨rfl, Nat.le_refl _, fun L hL => ?_, fun h => h⟩⟩⟩
    · simp only [upd] at h2
      split at h2
      · simp at h2; subst h2; simp; omega
      · exact hn i C L h1 h2 h3
    · simp only [upd]
      split
      · rename_i e; subst e; rw [hι] at hL; cases hL
      · exact hL
  refine ⟨hev, fun i C L h1 h2 => ?_, fun i j C D L M h1 h2 h3 h4 hij ho => ?_⟩
  · simp only [upd] at h2
    split at h2
    · rename_i e; subst e
      rw [hB] at h1; cases h1
      simp at h2; subst h2
      refine ⟨⟨c, _, _, hnew, by simpa using hcap, fun k x hk => ?_⟩, hB0, hlen, hfit, fun _ => ⟨hB0, fun o _ h => hfr o (by simpa using h)⟩⟩
      obtain ⟨v, h5, h6⟩ := hcells k x hk
      exact ⟨v, by simpa using h5, h6.ev hev⟩
    · have hb := hH.blk i C L h1 h2
      exact hb.ev hev (hw _ hb.lt)
  · simp only [upd] at h2 h4
    split at h2 <;> split at h4
    · omega
    · simp at h2; subst h2
      have := (hH.blk j D M h3 h4).lt
      simp; omega
    · simp at h4; subst h4
      have := (hH.blk i C L h1 h2).lt
      simp; omega
    · exact hH.sep i j C D L M h1 h2 h3 h4 hij ho

theorem below_push (o : Obj) (n : Nat) : Below w.heap.size w { w with heap := w.heap.push o, drawn := n } :=
  ⟨rfl, rfl, rfl, by simp, fun k hk => by simp [Array.getElem?_push, Nat.ne_of_lt hk]⟩

/-- Cells stored from a place on. -/
theorem storeCells_ok {b : Nat} {e : TypeId} {fr : Nat × Nat} : ∀ (vs : List Value) (i o : Nat) (w : World) (c : Array Value), w.heap[b]? = some (.cells c e fr) → o + i + vs.length ≤ c.size →
    (∀ j, o + i ≤ j → j < o + i + vs.length → w.frozen? ⟨b, j, none⟩ = false) → (∀ v ∈ vs, v.oneCell' = true) →
    ∃ w' c', (storeCells ⟨b, o, none⟩ vs i).run P w = .ok () w' ∧ w'.heap[b]? = some (.cells c' e fr) ∧ c'.size = c.size ∧ (∀ k, c'[k]? = if o + i ≤ k ∧ k < o + i + vs.length then vs[k - (o + i)]? else c[k]?) ∧
      w'.heap.size = w.heap.size ∧ (∀ k, k ≠ b → w'.heap[k]? = w.heap[k]?) ∧ w'.os = w.os ∧ w'.tape = w.tape ∧ w'.output = w.output
  | [], i, o, w, c, h, _, _, _ => ⟨w, c, rfl, h, rfl, fun k => by simp; omega, rfl, fun _ _ => rfl, rfl, rfl, rfl⟩
  | v :: vs, i, o, w, c, h, hs, hf, h1 => by
    have hcell : w.cell? ⟨b, o + i, none⟩ = some (c[o + i]'(by simp at hs; omega)) := by
      rw [cell_of_row w b (o + i) c e fr h]; simp at hs; simp [show o + i < c.size by omega]
    have hst : (store ((⟨b, o, none⟩ : Addr).add i) v).run P w = .ok () (w.setCell ⟨b, o + i, none⟩ v) := by
      rw [add_mk, run_store P w _ v _ (h1 v (by simp)), hcell]
      simp [hf (o + i) (by omega) (by simp)]
    have hrow : (w.setCell ⟨b, o + i, none⟩ v).heap[b]? = some (.cells (c.setIfInBounds (o + i) v) e fr) := by
      simp [World.setCell, Array.getElem?_modify, h]
    obtain ⟨w', c', e1, e2, e3, e4, e5, e6, e7, e8, e9⟩ := storeCells_ok vs (i + 1) o (w.setCell ⟨b, o + i, none⟩ v) (c.setIfInBounds (o + i) v) hrow (by simp at hs ⊢; omega)
      (fun j hj1 hj2 => by rw [World.frozen?_setCell]; exact hf j (by omega) (by simp; omega)) (fun x hx => h1 x (by simp [hx]))
    refine ⟨w', c', ?_, e2, by simpa using e3, fun k => ?_, by rw [e5]; simp [World.setCell], fun k hk => ?_, e7, e8, e9⟩
    · simp only [storeCells, Sem.run_bind, hst, Result.andThen_ok, e1]
    · rw [e4]
      simp only [List.length_cons] at hs ⊢
      by_cases hk : k = o + i
      · subst hk
        rw [if_neg (by omega), if_pos (by omega), Array.getElem?_setIfInBounds_self_of_lt (by omega)]
        simp
      · by_cases h2 : o + i ≤ k ∧ k < o + i + (vs.length + 1)
        · rw [if_pos (by omega), if_pos h2, show k - (o + i) = (k - (o + (i + 1))) + 1 by omega, List.getElem?_cons_succ]
        · rw [if_neg (by omega), if_neg h2, Array.getElem?_setIfInBounds_ne (by omega)]
    · rw [e6 k hk]
      exact Below.heap_setCell _ _ _ _ hk

/-- A block of our own is written in place: what must be known of its cells behind the store. -/
theorem write_ok (hH : HR w ι H (Al A0 B0 w ι H) B0) {id : Nat} {B B' : Blk} {L L' : Loc} (hB : H id = some B) (hL : ι id = some L) (ho : B.own = true)
    (hsz : w'.heap.size = w.heap.size) (hw : ∀ k, k ≠ L.blk → w'.heap[k]? = w.heap[k]?) {c' : Array Value} {e : TypeId} {fr : Nat × Nat} (hrow : w'.heap[L.blk]? = some (.cells c' e fr))
    (hfr : ∀ o, w'.frozen? ⟨L.blk, o, none⟩ = w.frozen? ⟨L.blk, o, none⟩) (hblk : L'.blk = L.blk) (hbase : L.base ≤ L'.base) (hend : L'.base + L'.cap * B'.sz ≤ L.base + L.cap * B.sz) (hcs : L'.base + L'.cap * B'.sz ≤ c'.size)
    (hgen : B.gen ≤ B'.gen) (hsame : B'.gen = B.gen → B'.sz = B.sz ∧ B.els.length ≤ B'.els.length ∧ L' = L ∧ (B.els = [] → B'.els = []))
    (hlen : B'.els.length ≤ L'.cap) (hfit : ∀ x ∈ B'.els, x.fits B'.sz = true)
    (hcells : ∀ (k : Nat) (x : AV), (flat B'.els)[k]? = some x → ∃ v, c'[L'.base + k]? = some v ∧ VR w ι H (Al A0 B0 w ι H) x v) :
    Ev w ι H w' (upd ι id (some L')) (upd H id (some B')) ∧ HR w' (upd ι id (some L')) (upd H id (some B')) (Al A0 B0 w' (upd ι id (some L')) (upd H id (some B'))) B0 := by
  have hev : Ev w ι H w' (upd ι id (some L')) (upd H id (some B')) := by
    refine ⟨by omega, fun b hb hn => hw b (hn id B L hB hL ho), fun b hb hn i C M h1 h2 h3 => ?_, fun i C hC => ?_⟩
    · simp only [upd] at h1 h2
      split at h1
      · rename_i e; subst e
        simp at h2; subst h2
        rw [hblk]; exact hn i B L hB hL ho
      · rename_i hne
        rw [if_neg hne] at h2
        exact hn i C M h1 h2 h3
    · by_cases hi : i = id
      · subst hi
        rw [hB] at hC; cases hC
        refine ⟨B', upd_same _ _ _, hgen, fun e => ?_⟩
        obtain ⟨a1, a2, a3, a4⟩ := hsame e
        exact ⟨a1, a2, fun M hM => by rw [hL] at hM; cases hM; rw [a3]; exact upd_same _ _ _, a4⟩
      · exact ⟨C, by rw [upd_ne _ _ _ _ hi]; exact hC, Nat.le_refl _, fun _ => ⟨rfl, Nat.le_refl _, fun M hM => by rw [upd_ne _ _ _ _ hi]; exact hM, fun h => h⟩⟩
  have hb := hH.blk id B L hB hL
  refine ⟨hev, fun i C M h1 h2 => ?_, fun i j C D M N h1 h2 h3 h4 hij hown => ?_⟩
  · by_cases hi : i = id
    · subst hi
      rw [upd_same] at h1 h2
      cases h1; cases h2
      refine ⟨⟨c', _, _, by rw [hblk]; exact hrow, hcs, fun k x hk => ?_⟩, by rw [hblk]; exact hb.low, hlen, hfit, fun _ => ⟨by rw [hblk]; exact (hb.free ho).1, fun o h5 h6 => ?_⟩⟩
      · obtain ⟨v, h5, h6⟩ := hcells k x hk
        exact ⟨v, h5, h6.ev hev⟩
      · rw [hblk, hfr]
        exact (hb.free ho).2 o (by omega) (by omega)
    · rw [upd_ne _ _ _ _ hi] at h1 h2
      exact (hH.blk i C M h1 h2).ev hev (hw _ (Ne.symm (hH.sep id i B C L M hB hL h1 h2 (Ne.symm hi) ho)))
  · by_cases hi : i = id
    · subst hi
      rw [upd_same] at h2
      cases h2
      rw [upd_ne _ _ _ _ (Ne.symm hij)] at h3 h4
      rw [hblk]
      exact hH.sep i j B D L N hB hL h3 h4 hij ho
    · rw [upd_ne _ _ _ _ hi] at h1 h2
      by_cases hj : j = id
      · subst hj
        rw [upd_same] at h4
        cases h4
        rw [hblk]
        exact hH.sep i j C B M L h1 h2 hB hL hij hown
      · rw [upd_ne _ _ _ _ hj] at h3 h4
        exact hH.sep i j C D M N h1 h2 h3 h4 hij hown
end
end Go.Ab

/- The operations that make a block. -/
namespace Go.Ab
open Go.RowKit
section
variable {P : Program} {w : World} {ι : Plc} {H : Heap} {A : Nat → Prop} {B0 : Nat}

/-- A new row at the heap's end holds what b tells; u is the value that leads to it. -/
def NewR (w : World) (ι : Plc) (H : Heap) (A : Nat → Prop) (b : Blk) (mk : Nat → Nat → AV) (u : Value) (w' : World) : Prop :=
  ∃ c e fr cap, (∀ k, k < w.heap.size → w'.heap[k]? = w.heap[k]?) ∧ w'.heap[w.heap.size]? = some (.cells c e fr) ∧ w'.heap.size = w.heap.size + 1 ∧ w'.os = w.os ∧ w'.tape = w.tape ∧ w'.output = w.output ∧
    cap * b.sz ≤ c.size ∧ b.els.length ≤ cap ∧ (∀ x ∈ b.els, x.fits b.sz = true) ∧ (∀ (k : Nat) (x : AV), (flat b.els)[k]? = some x → ∃ v, c[k]? = some v ∧ VR w ι H A x v) ∧
    (∀ o, o < cap * b.sz → w'.frozen? ⟨w.heap.size, o, none⟩ = false) ∧
    ((∃ len, len ≤ b.els.length ∧ mk = (fun id g => .ref id g 0 len) ∧ u = .slice (some ⟨w.heap.size, 0, none⟩) len cap) ∨ (mk = (fun id g => .ptr id g 0 0) ∧ u = .pointer (some ⟨w.heap.size, 0, none⟩)))

theorem push_old (w : World) (o : Obj) (k : Nat) (h : k < w.heap.size) : (w.alloc o).heap[k]? = w.heap[k]? := Below.heap_alloc w o k h
theorem push_new (w : World) (o : Obj) : (w.alloc o).heap[w.heap.size]? = some o := heap_alloc_new w o
theorem push_free (w : World) (c : Array Value) (e : TypeId) (o : Nat) : (w.alloc (.cells c e)).frozen? ⟨w.heap.size, o, none⟩ = false := by
  unfold World.frozen?
  rw [push_new]
  simp

theorem const_cells (v : Value) (h : (ofConst v).cells.all AV.isCell = true) : AggR w ι H A (ofConst v).cells v.cells := by
  by_cases ha : ∃ cs, v = .agg cs
  · obtain ⟨cs, rfl⟩ := ha
    exact AggR_const cs
  · have h1 : ofConst v = ofCell v := by cases v <;> first | rfl | exact absurd ⟨_, rfl⟩ ha
    have h2 : v.cells = #[v] := by cases v <;> first | rfl | exact absurd ⟨_, rfl⟩ ha
    have hd : DR w A (ofConst v) v := DR.const v
    rw [h1] at h hd
    have h3 : (ofCell v).cells = [ofCell v] := by unfold ofCell; split <;> rfl
    rw [h1, h2, h3]
    refine ⟨by simp, fun k c u hk hu => ?_⟩
    cases k with
    | zero => simp at hk hu; subst hk; subst hu; exact .data _ _ hd
    | succ k => simp at hk

theorem AggR.get {cs : List AV} {us : Array Value} (h : AggR w ι H A cs us) {k : Nat} {c : AV} (hk : cs[k]? = some c) : ∃ v, us[k]? = some v ∧ VR w ι H A c v := by
  have hl := h.1
  have hlt : k < us.size := by have := (List.getElem?_eq_some_iff.1 hk).1; omega
  exact ⟨us[k], by simp [hlt], h.2 k c _ hk (by simp [hlt])⟩

theorem newVar_new {t : TypeId} {v : Value} {x : AV} (h : AggR w ι H A x.cells v.cells) (hc : x.cells.all AV.isCell = true) :
    NewR w ι H A ⟨x.cells.length, [x], 0, true⟩ (fun id g => .ptr id g 0 0) (.pointer (some ⟨w.heap.size, 0, none⟩)) (w.alloc (.cells v.cells t)) := by
  refine ⟨v.cells, t, (0, 0), 1, fun k hk => push_old _ _ k hk, push_new _ _, by simp, rfl, rfl, rfl, by simp [h.1], by simp, ?_, fun k y hk => ?_, fun o _ => push_free _ _ _ _, .inr ⟨rfl, rfl⟩⟩
  · intro y hy
    simp at hy; subst hy
    simp [AV.fits, hc]
  · have : flat [x] = x.cells := by simp [flat]
    rw [this] at hk
    exact h.get hk

theorem take_len_append (a b : List AV) (m : Nat) : (a ++ b).take (a.length + m) = a ++ b.take m := by
  rw [List.take_append, List.take_of_length_le (by omega), Nat.add_sub_cancel_left]
theorem drop_len_append (a b : List AV) (m : Nat) : (a ++ b).drop (a.length + m) = b.drop m := by
  rw [List.drop_append, List.drop_of_length_le (by omega), Nat.add_sub_cancel_left, List.nil_append]
theorem flat_set {n : Nat} {els : List AV} (hf : ∀ x ∈ els, x.fits n = true) {v : AV} {i : Nat} (hi : i < els.length) :
    flat (els.set i v) = (flat els).take (i * n) ++ v.cells ++ (flat els).drop (i * n + n) := by
  induction els generalizing i with
  | nil => simp at hi
  | cons x els ih =>
    have hx := (fits_cells (hf x (by simp))).1
    have ih' := fun h => ih (fun y hy => hf y (by simp [hy])) (i := i - 1) h
    cases i with
    | zero =>
      simp only [List.set_cons_zero, flat, List.flatMap_cons, Nat.zero_mul, List.take_zero, List.nil_append, Nat.zero_add]
      rw [List.drop_append, hx, Nat.sub_self, List.drop_of_length_le (by omega)]
      simp
    | succ i =>
      simp only [List.length_cons] at hi
      have := ih' (by omega)
      simp only [Nat.add_sub_cancel] at this
      simp only [List.set_cons_succ, flat, List.flatMap_cons] at this ⊢
      rw [this, show (i + 1) * n = x.cells.length + i * n by rw [hx, Nat.add_mul]; omega]
      rw [take_len_append, Nat.add_assoc, drop_len_append]
      simp

theorem fillEls_ok {n : Nat} : ∀ (parts : List (Nat × AV)) (els r : List AV), (∀ x ∈ els, x.fits n = true) → fillEls n els parts = some r → (∀ x ∈ r, x.fits n = true) ∧ r.length = els.length ∧ fillA (fun i => some (i * n, n)) (flat els) parts = some (flat r) := by
  intro parts
  induction parts with
  | nil => intro els r hf h; simp [fillEls] at h; subst h; exact ⟨hf, rfl, rfl⟩
  | cons p parts ih =>
    intro els r hf h
    obtain ⟨i, v⟩ := p
    simp only [fillEls] at h
    split at h
    · rename_i hc
      obtain ⟨hv, hi⟩ := hc
      have hf' : ∀ x ∈ els.set i v, x.fits n = true := by
        intro x hx
        rcases List.mem_or_eq_of_mem_set hx with h | rfl
        · exact hf x h
        · exact hv
      obtain ⟨h1, h2, h3⟩ := ih _ r hf' h
      refine ⟨h1, by simpa using h2, ?_⟩
      have hl := flat_length hf
      have hle : i * n + n ≤ (flat els).length := by
        rw [hl]
        calc i * n + n = (i + 1) * n := by rw [Nat.add_mul]; omega
          _ ≤ els.length * n := Nat.mul_le_mul_right _ hi
      simp only [fillA]
      rw [if_pos ⟨hv, hle⟩, ← flat_set hf hi]
      exact h3
    · simp at h

theorem flat_replicate (len : Nat) (z : AV) (n : Nat) (hz : z.cells.length = n) (k : Nat) (c : AV) (h : (flat (List.replicate len z))[k]? = some c) : z.cells[k % n]? = some c := by
  induction len generalizing k with
  | zero => simp [flat] at h
  | succ len ih =>
    simp only [List.replicate_succ, flat, List.flatMap_cons] at h
    by_cases hk : k < n
    · rw [List.getElem?_append_left (by omega)] at h
      rw [Nat.mod_eq_of_lt hk]; exact h
    · rw [List.getElem?_append_right (by omega)] at h
      have := ih (k - z.cells.length) h
      rw [hz] at this
      rw [Nat.mod_eq_sub_mod (by omega)]; exact this

theorem zeros_AggR {v : Value} {n len : Nat} (hf : (ofConst v).fits n = true) : AggR w ι H A (flat (List.replicate len (ofConst v))) ((Array.range (len * n)).map fun i => v.cells[i % v.cells.size]!) := by
  obtain ⟨hl, hc⟩ := fits_cells hf
  have hcc : AggR w ι H A (ofConst v).cells v.cells := const_cells v (by simpa [List.all_eq_true] using hc)
  have hs : v.cells.size = n := by rw [← hcc.1, hl]
  refine ⟨?_, fun k c u hk hu => ?_⟩
  · rw [flat_length (sz := n) (by intro x hx; rw [List.eq_of_mem_replicate hx]; exact hf)]; simp
  · have h1 := flat_replicate len _ n hl k c hk
    obtain ⟨y, hy, hr⟩ := hcc.get h1
    have hlt : k < len * n := by have := (Array.getElem?_eq_some_iff.1 hu).1; simpa using this
    simp only [Array.getElem?_map, Array.getElem?_range] at hu
    rw [if_pos hlt] at hu
    simp at hu; subst hu
    rw [hs, Array.getElem!_eq_getD, Array.getD_eq_getD_getElem?, hy]
    exact hr

theorem fits_of_const {v : Value} {n : Nat} (h : (ofConst v).fits n = true) : v.cells.size = n := by
  obtain ⟨hl, hc⟩ := fits_cells h
  have := const_cells (w := default) (ι := fun _ => none) (H := fun _ => none) (A := fun _ => True) v (by simpa [List.all_eq_true] using hc)
  rw [← this.1, hl]

theorem range0 : Array.range 0 = #[] := rfl
theorem buildSlice_new {ρ : Operand → AV} {σ : Operand → Value} (hρ : ∀ x, VR w ι H A (ρ x) (σ x)) {t e : TypeId} {len n : Nat} {parts : Array (Nat × Operand)} {z : AV} {els : List AV} (ht : tk P t = .slice e) (hn : csz P e = some n) (hz : zro P e = some z)
    (hf : z.fits n = true) (h0 : 0 < n) (hle : len * n ≤ 16777216) (h : fillEls n (List.replicate len z) (parts.toList.map fun p => (p.1, ρ p.2)) = some els) :
    ∃ u w', (Instr.buildSlice t len (parts.map fun (i, x) => (i, σ x))).run P w = .ok u w' ∧ NewR w ι H A ⟨n, els, 0, true⟩ (fun id g => .ref id g 0 len) u w' := by
  obtain ⟨i, v, hi, hzv, rfl⟩ := zero_of_zro hz
  obtain ⟨h1, h2, h3⟩ := fillEls_ok _ _ _ (by intro x hx; rw [List.eq_of_mem_replicate hx]; exact hf) h
  obtain ⟨us, h4, h5⟩ := fill_sound hρ parts.toList _ _ _ (zeros_AggR hf) h3
  have hs : v.cells.size = n := fits_of_const hf
  have hparts : (parts.map fun (x : Nat × Operand) => (x.1, σ x.2)).toList = parts.toList.map fun p => (p.1, σ p.2) := by simp
  have hzr : (zeroValue e).run P w = .ok v w := by simp [zeroValue, typeInfo, hi, hzv]
  have hlen : els.length = len := by simpa using h2
  have hus : us.size = len * n := by rw [← h5.1, flat_length h1, hlen]
  refine ⟨.slice (some ⟨w.heap.size, 0, none⟩) len len, w.alloc (.cells us e), ?_, us, e, (0, 0), len, fun k hk => push_old _ _ k hk, push_new _ _, by simp, rfl, rfl, rfl, by simp [hus], by simp [hlen], h1, fun k x hk => h5.get hk, fun o _ => push_free _ _ _ _, .inl ⟨len, by simp [hlen], rfl, rfl⟩⟩
  have hle' : ¬ (16777216 < len * n) := by omega
  by_cases hl0 : len * n = 0
  · have hl : len = 0 := by
      rcases Nat.mul_eq_zero.1 hl0 with h | h
      · exact h
      · omega
    subst hl
    have hr0 : ((Array.range (0 * n)).map fun i => v.cells[i % v.cells.size]!) = #[] := by simp
    have h4' : Instr.fill (fun i => some (i * n, n)) #[] (parts.toList.map fun p => (p.1, σ p.2)) = some us := by rw [← hr0]; exact h4
    simp [Instr.buildSlice, run_underlying (und_of_tk_slice ht), run_sizeOf_csz hn, h4', newRow, range0]
  · have hl' : ¬ (len = 0 ∨ n = 0) := by rw [← Nat.mul_eq_zero]; exact hl0
    rw [← hs] at h4
    simp only [Instr.buildSlice, Sem.run_bind, run_underlying (und_of_tk_slice ht), Result.andThen_ok, run_sizeOf_csz hn, Sem.run_ite]
    rw [if_neg (by simpa using hle'), if_neg hl0]
    simp only [hzr, Result.andThen_ok, Sem.run_pure, hs]
    rw [hs] at h4
    rw [hparts]
    simp only [h4]
    simp [newRow]

theorem makeSlice_new {t e : TypeId} {n by_ : Nat} {z : AV} {l m : Int} (ht : tk P t = .slice e) (hn : csz P e = some n) (hb : bsz P e = some by_) (hz : zro P e = some z) (hf : z.fits n = true) (h0 : 0 < n)
    (hl0 : 0 ≤ l) (hlm : l ≤ m) (hr : roomOk m.toNat by_ = true) :
    ∃ u w', (Instr.makeSlice t (.int .i64 l) (.int .i64 m)).run P w = .ok u w' ∧ NewR w ι H A ⟨n, List.replicate l.toNat z, 0, true⟩ (fun id g => .ref id g 0 l.toNat) u w' := by
  obtain ⟨i, v, hi, hzv, rfl⟩ := zero_of_zro hz
  have hs : v.cells.size = n := fits_of_const hf
  have hby : i.bytes = by_ := by unfold bsz at hb; rw [hi] at hb; simpa using hb
  have hsi : i.size = n := by obtain ⟨i', h1, h2⟩ := info_of_csz hn; rw [hi] at h1; cases h1; exact h2
  simp only [roomOk, Bool.and_eq_true, decide_eq_true_eq] at hr
  obtain ⟨hr1, hr2⟩ := hr
  have wl : IntKind.i64.wrap l = l := by simp [IntKind.wrap, IntKind.signed, IntKind.bits]; omega
  have wm : IntKind.i64.wrap m = m := by simp [IntKind.wrap, IntKind.signed, IntKind.bits]; omega
  have hm : ((m.toNat : Nat) : Int) = m := by omega
  have hbig : ¬ (281474976710656 < (by_ : Int) * m) := by
    have : ((m.toNat * by_ : Nat) : Int) ≤ 140737488355328 := by omega
    rw [← hm, Int.mul_comm]
    push_cast at this
    omega
  have hzr : (zeroValue e).run P w = .ok v w := by simp [zeroValue, typeInfo, hi, hzv]
  have hag := zeros_AggR (w := w) (ι := ι) (H := H) (A := A) (len := m.toNat) hf
  refine ⟨.slice (some ⟨w.heap.size, 0, none⟩) l.toNat m.toNat, w.alloc (.cells ((Array.range (m.toNat * n)).map fun i => v.cells[i % v.cells.size]!) e), ?_, _, e, (0, 0), m.toNat, fun k hk => push_old _ _ k hk, push_new _ _, by simp, rfl, rfl, rfl, by simp, by simp; omega, ?_, fun k x hk => ?_, fun o _ => push_free _ _ _ _, .inl ⟨l.toNat, by simp, rfl, rfl⟩⟩
  · have c1 : ¬ (m < 0) := by omega
    have c2 : ¬ (l < 0) := by omega
    have c3 : ¬ (m < l) := by omega
    by_cases hn0 : m.toNat * n = 0
    · have hm0 : m.toNat = 0 := by
        rcases Nat.mul_eq_zero.1 hn0 with h | h
        · exact h
        · omega
      have hmz : m = 0 := by omega
      subst hmz
      have hlz : l = 0 := by omega
      subst hlz
      simp [Instr.makeSlice, run_underlying (und_of_tk_slice ht), asInt, asIntOf, run_typeInfo' hi, wl, run_sizeOf_csz hn, newRow, range0]
    · simp [Instr.makeSlice, run_underlying (und_of_tk_slice ht), asInt, asIntOf, run_typeInfo' hi, wl, wm, hby, c1, c2, c3, hbig, run_sizeOf_csz hn, hzr, newRow]
      intro h; exact absurd h hn0
  · intro x hx; rw [List.eq_of_mem_replicate hx]; exact hf
  · refine hag.get (k := k) (c := x) ?_
    have hk' := hk
    have hlt := (List.getElem?_eq_some_iff.1 hk).1
    have : List.replicate m.toNat (ofConst v) = List.replicate l.toNat (ofConst v) ++ List.replicate (m.toNat - l.toNat) (ofConst v) := by
      rw [List.replicate_append_replicate]; congr 1; omega
    rw [this, flat_append, List.getElem?_append_left hlt]
    exact hk
end
end Go.Ab

/- append; and all operations that make a block, in one statement; all that turn one. -/
namespace Go.Ab
open Go.RowKit
section
variable {P : Program} {w : World} {ι : Plc} {H : Heap} {A : Nat → Prop} {B0 : Nat}

theorem run_append_grow' {t t' ty e : TypeId} {i : TypeInfo} {z : Value} (ht : P.underlying t = some (.slice e)) (ht' : (∃ e', P.underlying t' = some (.slice e')) ∨ P.underlying t' = some .string) (hi : P.info? e = some i) (hz : i.zero = some z)
    {base : Option Addr} {sLen sCap m : Nat} {v : Value} {olds us : List Value} (hlen : (Builtin.lenOf v).run P w = .ok m w)
    (ho : ∀ w' : World, w'.heap = w.heap → (Builtin.firstCells i.size sLen (.slice base sLen sCap)).run P w' = .ok olds.toArray w') (hu : ∀ w' : World, w'.heap = w.heap → (Builtin.firstCells i.size m v).run P w' = .ok us.toArray w')
    (hg : sCap < sLen + m) (h63 : sLen + m ≤ 4611686018427387904) (hfit : (sLen + m) * i.bytes ≤ 140737488355328) :
    (Builtin.append_ #[t, t'] ty #[.slice base sLen sCap, v]).run P w =
      .ok (.slice (some ⟨w.heap.size, 0, none⟩) (sLen + m) (grownCap w (sLen + m) sCap e))
        (w.drew.alloc (.cells (olds.toArray ++ us.toArray ++ Builtin.zeroCells z.cells (grownCap w (sLen + m) sCap e - (sLen + m))) e)) := by
  have hn : ¬ (sLen + m ≤ sCap) := by omega
  have h63' : ¬ (9223372036854775807 < ((sLen : Int) + (m : Int))) := by omega
  have h48' : ¬ (281474976710656 < Builtin.nextslicecap (sLen + m) sCap * i.bytes) := by have := growslice_fits hg hfit; omega
  have ho' := ho w.drew rfl
  have hu' := hu w.drew rfl
  rcases ht' with ⟨e', ht'⟩ | ht' <;>
    (simp [Builtin.append_, run_underlying ht, run_underlying ht', sizeOf, typeInfo, zeroValue, hi, hz, hlen, hn, h63', h48', Question.forced, hu', ho', newRow, grownCap]
     congr 2
     apply Array.ext'
     simp [List.append_assoc])

theorem run_append_room' {t t' ty e : TypeId} {i : TypeInfo} (ht : P.underlying t = some (.slice e)) (ht' : (∃ e', P.underlying t' = some (.slice e')) ∨ P.underlying t' = some .string) (hi : P.info? e = some i)
    {a : Addr} {sLen sCap m : Nat} {v : Value} {us : List Value} {w' : World} (hlen : (Builtin.lenOf v).run P w = .ok m w)
    (hu : (Builtin.firstCells i.size m v).run P w = .ok us.toArray w) (hst : (storeCells (a.add (sLen * i.size)) us).run P w = .ok () w') (hg : sLen + m ≤ sCap) :
    (Builtin.append_ #[t, t'] ty #[.slice (some a) sLen sCap, v]).run P w = .ok (.slice (some a) (sLen + m) sCap) w' := by
  rcases ht' with ⟨e', ht'⟩ | ht' <;> simp [Builtin.append_, run_underlying ht, run_underlying ht', sizeOf, typeInfo, hi, hlen, hg, hu, hst]

theorem getElem?_append_cells {xs : List AV} {ys : List AV} {os us : List Value} (hl : os.length = (flat xs).length)
    (h1 : ∀ (j : Nat) (c : AV), (flat xs)[j]? = some c → ∃ u, os[j]? = some u ∧ VR w ι H A c u) (h2 : ∀ (j : Nat) (c : AV), (flat ys)[j]? = some c → ∃ u, us[j]? = some u ∧ VR w ι H A c u) :
    ∀ (j : Nat) (c : AV), (flat (xs ++ ys))[j]? = some c → ∃ u, (os ++ us)[j]? = some u ∧ VR w ι H A c u := by
  intro j c h
  rw [flat_append] at h
  by_cases hj : j < (flat xs).length
  · rw [List.getElem?_append_left hj] at h
    obtain ⟨u, h3, h4⟩ := h1 j c h
    exact ⟨u, by rw [List.getElem?_append_left (by omega)]; exact h3, h4⟩
  · rw [List.getElem?_append_right (by omega)] at h
    obtain ⟨u, h3, h4⟩ := h2 _ c h
    exact ⟨u, by rw [List.getElem?_append_right (by omega), hl]; exact h3, h4⟩

theorem srcEls_get {n : Nat} {els : List AV} {us : List Value} (hf : ∀ e ∈ els, e.fits n = true) (hl : us.length = els.length * n) (h : ∀ (j : Nat) (c : AV) (u : Value), (flat els)[j]? = some c → us[j]? = some u → VR w ι H A c u) :
    ∀ (j : Nat) (c : AV), (flat els)[j]? = some c → ∃ u, us[j]? = some u ∧ VR w ι H A c u := by
  intro j c hj
  have hlt : j < us.length := by have := (List.getElem?_eq_some_iff.1 hj).1; rw [flat_length hf] at this; omega
  exact ⟨us[j], by simp [hlt], h j c _ hj (by simp [hlt])⟩

theorem bi_append_new (hH : HR w ι H A B0) {ρ : Operand → AV} {σ : Operand → Value} (hρ : ∀ x, VR w ι H A (ρ x) (σ x)) (o : Oper) {s x : Operand} {t t' : TypeId}
    (ho : o.op = .call { callee := .builtin .append, args := #[s, x], argTypes := #[t, t'] }) (hd : (∃ e', P.underlying t' = some (.slice e')) ∨ P.underlying t' = some .string) {b : Blk} {mk : Nat → Nat → AV} (h : appendA P t H (ρ s) (ρ x) = some (.new b mk)) :
    ∃ u w', (execOp σ o).run P w = .ok (.value u) w' ∧ NewR w ι H A b mk u w' := by
  unfold appendA at h
  split at h
  · rename_i e htk
    split at h
    · rename_i n by_ z hn hb hz
      split at h
      · rename_i hc
        obtain ⟨h0, hzl⟩ := hc
        split at h
        · rename_i new hsrc
          split at h
          · rename_i hs
            split at h
            · simp at h
            · rename_i hne
              split at h
              · rename_i hr
                simp only [Option.some.injEq, Out.new.injEq] at h
                obtain ⟨rfl, rfl⟩ := h
                obtain ⟨base, eb⟩ := (hs ▸ hρ s).of_nil
                obtain ⟨h1, hf, h3⟩ := srcEls_sound (P := P) hH (hρ x) hsrc
                obtain ⟨us, hul, hrun, hv, _⟩ := h3 new.length (Nat.le_refl _)
                obtain ⟨i, zv, hi, hzv, hzz⟩ := zero_of_zro hz
                have hsi : i.size = n := by obtain ⟨i', a1, a2⟩ := info_of_csz hn; rw [hi] at a1; cases a1; exact a2
                have hby : i.bytes = by_ := by unfold bsz at hb; rw [hi] at hb; simpa using hb
                simp only [roomOk, Bool.and_eq_true, decide_eq_true_eq] at hr
                have hpos : 0 < new.length := List.length_pos_iff.2 hne
                rw [← hsi] at hrun
                have holds : ∀ w' : World, w'.heap = w.heap → (Builtin.firstCells i.size 0 (.slice base 0 0)).run P w' = .ok ([] : List Value).toArray w' := by
                  intro w' _
                  cases base with
                  | none => simp [Builtin.firstCells]
                  | some a => simp [Builtin.firstCells, loadCells, loadCellsFrom]
                have hr' := run_append_grow' (w := w) (ty := o.type) (und_of_tk_slice htk) hd hi hzv h1 holds hrun (by omega) (by omega) (by rw [hby, Nat.zero_add]; omega)
                simp only [Nat.zero_add] at hr'
                have hge := grownCap_ge w new.length 0 e
                have hzs : zv.cells.size = n := by
                  rw [hzz] at hzl
                  rw [← hzl]
                  by_cases ha : ∃ cs, zv = .agg cs
                  · obtain ⟨cs, rfl⟩ := ha; simp [ofConst, AV.cells, Value.cells]
                  · have e1 : zv.cells = #[zv] := by cases zv <;> first | rfl | exact absurd ⟨_, rfl⟩ ha
                    have e2 : ofConst zv = ofCell zv := by cases zv <;> first | rfl | exact absurd ⟨_, rfl⟩ ha
                    have e3 : (ofCell zv).cells = [ofCell zv] := by unfold ofCell; split <;> rfl
                    rw [e1, e2, e3]; rfl
                refine ⟨.slice (some ⟨w.heap.size, 0, none⟩) new.length (grownCap w new.length 0 e), _, by simp only [execOp, ho, resolve, invoke, builtin, Sem.run_bind, Sem.run_pure, Result.andThen_ok, List.map_toArray, List.map_cons, List.map_nil, eb, hr']; rfl, ?_⟩
                refine ⟨_, e, (0, 0), grownCap w new.length 0 e, fun k hk => push_old w.drew _ k hk, push_new w.drew _, by simp, rfl, rfl, rfl, ?_, hge, hf, fun k y hk => ?_, fun o _ => push_free w.drew _ _ _, .inl ⟨new.length, by simp, rfl, rfl⟩⟩
                · simp only [Array.size_append, List.size_toArray, List.length_nil, size_zeroCells, hzs, hul, Nat.zero_add, ← Nat.add_mul]
                  rw [show new.length + (grownCap w new.length 0 e - new.length) = grownCap w new.length 0 e by omega]
                  exact Nat.le_refl _
                · obtain ⟨u, h5, h6⟩ := srcEls_get hf hul hv k y hk
                  refine ⟨u, ?_, h6⟩
                  have hlt := (List.getElem?_eq_some_iff.1 h5).1
                  rw [Array.getElem?_append_left (by simp; omega), Array.getElem?_append_right (by simp)]
                  simpa using h5
              · simp at h
          · split at h
            · split at h <;> simp at h
            · simp at h
          · simp at h
        · simp at h
      · simp at h
    · simp at h
  · simp at h

theorem aop_new (hH : HR w ι H A B0) {ρ : Operand → AV} {σ : Operand → Value} (hρ : ∀ x, VR w ι H A (ρ x) (σ x)) (o : Oper) {b : Blk} {mk : Nat → Nat → AV} (h : aop P o.op ρ H = some (.new b mk)) :
    ∃ u w', (execOp σ o).run P w = .ok (.value u) w' ∧ NewR w ι H A b mk u w' := by
  unfold aop at h
  split at h
  case h_1 | h_2 => simp at h
  case h_3 => split at h <;> simp at h
  case h_4 =>
    rename_i e ho
    split at h
    · rename_i z hz
      split at h
      · rename_i hc
        simp only [Option.some.injEq, Out.new.injEq] at h
        obtain ⟨rfl, rfl⟩ := h
        obtain ⟨i, v, hi, hzv, rfl⟩ := zero_of_zro hz
        have hzr : (zeroValue e).run P w = .ok v w := by simp [zeroValue, typeInfo, hi, hzv]
        exact ⟨_, _, by simp [execOp, ho, Instr.alloc, hzr, newVar, newRow], newVar_new (t := e) (const_cells v hc) hc⟩
      · simp at h
    · simp at h
  case h_5 =>
    rename_i e x ho
    split at h
    · rename_i hc
      simp only [Option.some.injEq, Out.new.injEq] at h
      obtain ⟨rfl, rfl⟩ := h
      have hfit : (ρ x).fits (ρ x).cells.length = true := by simp [AV.fits, hc]
      obtain ⟨h1, h2, _⟩ := (hρ x).cells hfit
      have hag : AggR w ι H A (ρ x).cells (σ x).cells := ⟨h1.symm, fun k c u hk hu => by
        obtain ⟨y, hy, hr⟩ := h2 k c hk
        rw [hy] at hu; cases hu; exact hr⟩
      exact ⟨_, _, by simp [execOp, ho, Instr.box, newVar, newRow], newVar_new (t := e) hag hc⟩
    · simp at h
  case h_6 =>
    split at h
    · split at h
      · rw [Option.map_eq_some_iff] at h; obtain ⟨_, _, h⟩ := h; cases h
      · simp at h
    · simp at h
  case h_7 =>
    rename_i t len parts ho
    split at h
    · rename_i e ht
      split at h
      · rename_i n z hn hz
        split at h
        · rename_i hc
          obtain ⟨hf, h0, hle⟩ := hc
          rw [Option.map_eq_some_iff] at h
          obtain ⟨els, he, h⟩ := h
          simp only [Out.new.injEq] at h
          obtain ⟨rfl, rfl⟩ := h
          obtain ⟨u, w', h1, h2⟩ := buildSlice_new (P := P) hρ ht hn hz hf h0 hle he
          exact ⟨u, w', by simp [execOp, ho, h1], h2⟩
        · simp at h
      · simp at h
    · simp at h
  case h_8 =>
    split at h
    · rw [Option.map_eq_some_iff] at h; obtain ⟨_, _, h⟩ := h; cases h
    · simp at h
  case h_9 => unfold storeA at h; (repeat' split at h) <;> simp at h
  case h_10 | h_11 | h_12 => rw [Option.map_eq_some_iff] at h; obtain ⟨_, _, h⟩ := h; cases h
  case h_13 =>
    rename_i src dst x ho
    unfold convA at h
    split at h
    · split at h <;> (try split at h) <;> simp at h
    · rename_i l hx
      split at h
      · rename_i hs
        split at h
        · simp at h
        · rename_i e hd
          split at h
          · rename_i he
            simp only [Option.some.injEq, Out.new.injEq] at h
            obtain ⟨rfl, rfl⟩ := h
            obtain ⟨s, e1, e2⟩ := (hx ▸ hρ x).of_str
            have hsz : s.size = l.length := by rw [← e2]; simp
            have hr := Lib.run_convert_string_bytes w src dst e s (und_of_tk_str hs) (und_of_tk_slice hd) (und_of_tk_int he)
            have hge := grownCap_ge w s.size 0 e
            have hcs : (Lib.bytesCells w e s).size = grownCap w s.size 0 e := by simp [Lib.bytesCells]; omega
            refine ⟨_, _, by simp only [execOp, ho, e1, Sem.run_bind, hr, Result.andThen_ok, Sem.run_pure]; rfl, _, _, _, grownCap w s.size 0 e, fun k hk => Lib.bytesWorld_at_old w e s k hk, Lib.bytesWorld_at_new w e s, Lib.bytesWorld_size w e s, rfl, rfl, rfl, by simp [hcs], ?_, ?_, fun k y hk => ?_, fun o ho => ?_, .inl ⟨l.length, by simp [bytesA], rfl, by rw [hsz]⟩⟩
            · simp [bytesA]; omega
            · simp [bytesA, AV.fits, AV.cells, AV.isCell]
            · rw [flat_bytesA] at hk
              simp only [bytesA, List.getElem?_map, Option.map_eq_some_iff] at hk
              obtain ⟨b, hb, rfl⟩ := hk
              refine ⟨.int .u8 b.toNat, ?_, .data _ _ (.int _ _)⟩
              have hlt : k < l.length := (List.getElem?_eq_some_iff.1 hb).1
              unfold Lib.bytesCells
              rw [Array.getElem?_append_left (by simp; omega), Array.getElem?_map]
              rw [← e2, Array.getElem?_toList] at hb
              rw [hb]; rfl
            · unfold World.frozen?
              rw [Lib.bytesWorld_at_new]
              simp only [Nat.mul_one] at ho
              simp only [hcs]
              simp; omega
          · simp at h
        · simp at h
      · simp at h
    · split at h
      · split at h
        · split at h
          · rw [Option.map_eq_some_iff] at h; obtain ⟨_, _, h⟩ := h; cases h
          · simp at h
        · simp at h
      · simp at h
  case h_14 => unfold mkFuncA at h; (repeat' split at h) <;> simp at h
  case h_15 =>
    rename_i t l c ho
    unfold makeSliceA at h
    split at h
    · rename_i e kl n kc m ht hl hc
      split at h
      · rename_i sz by_ z hn hb hz
        split at h
        · rename_i hcond
          obtain ⟨rfl, rfl, h1, h2, h3, h4, h5⟩ := hcond
          simp only [Option.some.injEq, Out.new.injEq] at h
          obtain ⟨rfl, rfl⟩ := h
          have e1 := (hl ▸ hρ l).of_int
          have e2 := (hc ▸ hρ c).of_int
          obtain ⟨u, w', h6, h7⟩ := makeSlice_new (P := P) (w := w) (ι := ι) (H := H) (A := A) ht hn hb hz h4 h5 h1 h2 h3
          exact ⟨u, w', by simp [execOp, ho, e1, e2, h6], h7⟩
        · simp at h
      · simp at h
    · simp at h
  case h_16 | h_17 => rw [Option.map_eq_some_iff] at h; obtain ⟨_, _, h⟩ := h; cases h
  case h_18 =>
    split at h
    · split at h
      · rw [Option.map_eq_some_iff] at h; obtain ⟨_, _, h⟩ := h; cases h
      · simp at h
    · simp at h
  case h_19 | h_20 | h_21 => rw [Option.map_eq_some_iff] at h; obtain ⟨_, _, h⟩ := h; cases h
  case h_22 =>
    rename_i c ho
    split at h
    · rename_i b hb
      obtain ⟨callee, args, argTypes⟩ := c
      simp only at hb h; subst hb
      obtain ⟨args⟩ := args
      obtain ⟨ts⟩ := argTypes
      simp only at h
      unfold biA at h
      split at h
      · split at h
        · rw [Option.map_eq_some_iff] at h; obtain ⟨_, _, h⟩ := h; cases h
        · simp at h
      · split at h
        · split at h
          · split at h
            · rename_i htk; exact bi_append_new hH hρ o ho (.inl ⟨_, und_of_tk_slice htk⟩) h
            · rename_i htk; exact bi_append_new hH hρ o ho (.inr (und_of_tk_str htk)) h
            · simp at h
          · simp at h
        · split at h
          · unfold copyA at h; (repeat' split at h) <;> simp at h
          · simp at h
        · rw [Option.map_eq_some_iff] at h; obtain ⟨_, _, h⟩ := h; cases h
        · rw [Option.map_eq_some_iff] at h; obtain ⟨_, _, h⟩ := h; cases h
        · simp at h
      · simp at h
    · simp at h
  case h_23 => simp at h
end
end Go.Ab

/- A block is made anew under an id; the operations that turn a block of our own. -/
namespace Go.Ab
open Go.RowKit
section
variable {P : Program} {w w' : World} {ι : Plc} {H : Heap} {A0 : Nat → Prop} {B0 : Nat}

/-- An id gets a new block of a later generation that lies nowhere yet. -/
theorem kill_ok (hH : HR w ι H (Al A0 B0 w ι H) B0) {id : Nat} {B' : Blk} (hg : ∀ B, H id = some B → B.gen < B'.gen) :
    Ev w ι H w (upd ι id none) (upd H id (some B')) ∧ HR w (upd ι id none) (upd H id (some B')) (Al A0 B0 w (upd ι id none) (upd H id (some B'))) B0 := by
  have hev : Ev w ι H w (upd ι id none) (upd H id (some B')) := by
    refine ⟨Nat.le_refl _, fun _ _ _ => rfl, fun b hb hn i C M h1 h2 h3 => ?_, fun i C hC => ?_⟩
    · by_cases hi : i = id
      · subst hi; rw [upd_same] at h2; cases h2
      · rw [upd_ne _ _ _ _ hi] at h1 h2; exact hn i C M h1 h2 h3
    · by_cases hi : i = id
      · subst hi
        have := hg C hC
        exact ⟨B', upd_same _ _ _, by omega, fun e => by omega⟩
      · exact ⟨C, by rw [upd_ne _ _ _ _ hi]; exact hC, Nat.le_refl _, fun _ => ⟨rfl, Nat.le_refl _, fun M hM => by rw [upd_ne _ _ _ _ hi]; exact hM, fun h => h⟩⟩
  refine ⟨hev, fun i C M h1 h2 => ?_, fun i j C D M N h1 h2 h3 h4 hij hown => ?_⟩
  · by_cases hi : i = id
    · subst hi; rw [upd_same] at h2; cases h2
    · rw [upd_ne _ _ _ _ hi] at h1 h2
      exact (hH.blk i C M h1 h2).ev hev rfl
  · by_cases hi : i = id
    · subst hi; rw [upd_same] at h2; cases h2
    · by_cases hj : j = id
      · subst hj; rw [upd_same] at h4; cases h4
      · rw [upd_ne _ _ _ _ hi] at h1 h2
        rw [upd_ne _ _ _ _ hj] at h3 h4
        exact hH.sep i j C D M N h1 h2 h3 h4 hij hown

theorem ngen_lt {H : Heap} {id : Nat} : ∀ B, H id = some B → B.gen < ngen H id := by
  intro B hB; unfold ngen; rw [hB]; simp

/-- A block that an operation has made, at an id whose block lies nowhere yet. -/
theorem new_at (hH : HR w ι H (Al A0 B0 w ι H) B0) (hB0 : B0 ≤ w.heap.size) {b : Blk} {mk : Nat → Nat → AV} {u : Value} (hn : NewR w ι H (Al A0 B0 w ι H) b mk u w') {id : Nat} {B : Blk} (hB : H id = some B)
    (hsz : B.sz = b.sz) (hels : B.els = b.els) (hι : ι id = none) :
    ∃ L, Ev w ι H w' (upd ι id (some L)) H ∧ HR w' (upd ι id (some L)) H (Al A0 B0 w' (upd ι id (some L)) H) B0 ∧ VR w' (upd ι id (some L)) H (Al A0 B0 w' (upd ι id (some L)) H) (mk id B.gen) u ∧ Below w.heap.size w w' := by
  obtain ⟨c, e, fr, cap, h1, h2, h3, h4, h5, h6, h7, h8, h9, h10, h11, h12⟩ := hn
  obtain ⟨r1, r2⟩ := alloc_ok hH hB hι hB0 h1 h2 h3 (by rw [hsz]; exact h7) (by rw [hels]; exact h8) (by rw [hels, hsz]; exact h9) (by rw [hels]; exact h10) (by rw [hsz]; exact h11)
  refine ⟨_, r1, r2, ?_, ⟨h4, h5, h6, by omega, h1⟩⟩
  rcases h12 with ⟨len, hl, rfl, rfl⟩ | ⟨rfl, rfl⟩
  · have := VR.ref (w := w') (ι := upd ι id (some ⟨w.heap.size, 0, cap⟩)) (H := H) (A := Al A0 B0 w' (upd ι id (some ⟨w.heap.size, 0, cap⟩)) H) id B.gen 0 len 0 cap B ⟨w.heap.size, 0, cap⟩ hB rfl (upd_same _ _ _) (by rw [hels]; omega) (by simp) (by omega) (.inr (by simp))
    exact this
  · have := VR.ptr (w := w') (ι := upd ι id (some ⟨w.heap.size, 0, cap⟩)) (H := H) (A := Al A0 B0 w' (upd ι id (some ⟨w.heap.size, 0, cap⟩)) H) id B.gen 0 0 B ⟨w.heap.size, 0, cap⟩ hB rfl (upd_same _ _ _)
    simpa using this

theorem NewR.ev {ι' : Plc} {H' : Heap} {b : Blk} {mk : Nat → Nat → AV} {u : Value} (hev : Ev w ι H w ι' H') (hn : NewR w ι H (Al A0 B0 w ι H) b mk u w') : NewR w ι' H' (Al A0 B0 w ι' H') b mk u w' := by
  obtain ⟨c, e, fr, cap, h1, h2, h3, h4, h5, h6, h7, h8, h9, h10, h11, h12⟩ := hn
  exact ⟨c, e, fr, cap, h1, h2, h3, h4, h5, h6, h7, h8, h9, fun k x hk => by obtain ⟨v, a, b⟩ := h10 k x hk; exact ⟨v, a, b.ev hev⟩, h11, h12⟩

/-- The same where the id had a block before, or none. -/
theorem new_seq (hH : HR w ι H (Al A0 B0 w ι H) B0) (hB0 : B0 ≤ w.heap.size) {b : Blk} {mk : Nat → Nat → AV} {u : Value} (hn : NewR w ι H (Al A0 B0 w ι H) b mk u w') {id : Nat} {B' : Blk} (hsz : B'.sz = b.sz) (hels : B'.els = b.els)
    (hg : ∀ B, H id = some B → B.gen < B'.gen) :
    ∃ ι', Ev w ι H w' ι' (upd H id (some B')) ∧ HR w' ι' (upd H id (some B')) (Al A0 B0 w' ι' (upd H id (some B'))) B0 ∧
      VR w' ι' (upd H id (some B')) (Al A0 B0 w' ι' (upd H id (some B'))) (mk id B'.gen) u ∧ Below w.heap.size w w' ∧ ∀ j, j ≠ id → ι' j = ι j := by
  obtain ⟨k1, k2⟩ := kill_ok hH hg
  obtain ⟨L, r1, r2, r3, r4⟩ := new_at k2 hB0 (hn.ev k1) (upd_same H id (some B')) hsz hels (upd_same ι id none)
  exact ⟨_, k1.trans r1, r2, r3, r4, fun j hj => by rw [upd_ne _ _ _ _ hj, upd_ne _ _ _ _ hj]⟩

theorem setCells_cells {el : AV} {off n : Nat} {v : AV} (hv : v.fits n = true) (ho : off + n ≤ el.cells.length) (h0 : 0 < n) (hf : el.fits el.cells.length = true) :
    (setCells el off v.cells).cells = el.cells.take off ++ v.cells ++ el.cells.drop (off + n) ∧ (setCells el off v.cells).fits el.cells.length = true := by
  obtain ⟨hl, hc⟩ := fits_cells hv
  obtain ⟨_, hc2⟩ := fits_cells hf
  have key : (setCells el off v.cells).cells = el.cells.take off ++ v.cells ++ el.cells.drop (off + n) := by
    by_cases ha : ∃ cs, el = .agg cs
    · obtain ⟨cs, rfl⟩ := ha; simp [setCells, AV.cells, ← hl]
    · have he : el.cells = [el] := by cases el <;> first | rfl | exact absurd ⟨_, rfl⟩ ha
      rw [he] at ho ⊢
      simp only [List.length_singleton] at ho
      have : n = 1 := by omega
      have : off = 0 := by omega
      subst this
      obtain ⟨x, hx⟩ : ∃ x, v.cells = [x] := List.length_eq_one_iff.1 (by omega)
      have hsc : setCells el 0 v.cells = x := by cases el <;> first | (simp [setCells, hx]; done) | exact absurd ⟨_, rfl⟩ ha
      have hxc := hc x (by simp [hx])
      have hxx : x.cells = [x] := by cases x <;> first | rfl | (simp [AV.isCell] at hxc)
      rw [hsc, hxx, hx]
      simp; omega
  refine ⟨key, ?_⟩
  simp only [AV.fits, key, Bool.and_eq_true, beq_iff_eq, List.all_eq_true]
  refine ⟨by simp; omega, fun c hcm => ?_⟩
  simp only [List.mem_append] at hcm
  rcases hcm with (h | h) | h
  · exact hc2 c (List.mem_of_mem_take h)
  · exact hc c h
  · exact hc2 c (List.mem_of_mem_drop h)

theorem splice_get {α : Type} (l m : List α) (off : Nat) (h : off + m.length ≤ l.length) (k : Nat) : (l.take off ++ m ++ l.drop (off + m.length))[k]? = if off ≤ k ∧ k < off + m.length then m[k - off]? else l[k]? := by
  by_cases h1 : k < off
  · rw [if_neg (by omega), List.append_assoc, List.getElem?_append_left (by simp; omega), List.getElem?_take_of_lt h1]
  · by_cases h2 : k < off + m.length
    · rw [if_pos (by omega), List.append_assoc, List.getElem?_append_right (by simp; omega), List.getElem?_append_left (by simp; omega)]
      congr 1; simp; omega
    · rw [if_neg (by omega), List.getElem?_append_right (by simp; omega), List.getElem?_drop]
      congr 1; simp; omega

theorem below_write {b : Nat} (hb : B0 ≤ b) (h1 : w'.heap.size = w.heap.size) (h2 : ∀ k, k ≠ b → w'.heap[k]? = w.heap[k]?) (h3 : w'.os = w.os) (h4 : w'.tape = w.tape) (h5 : w'.output = w.output) : Below B0 w w' :=
  ⟨h3, h4, h5, by omega, fun k hk => h2 k (by omega)⟩

theorem frozen_row {b : Nat} {c c' : Array Value} {e : TypeId} {fr : Nat × Nat} (h : w.heap[b]? = some (.cells c e fr)) (h' : w'.heap[b]? = some (.cells c' e fr)) (o : Nat) : w'.frozen? ⟨b, o, none⟩ = w.frozen? ⟨b, o, none⟩ := by
  unfold World.frozen?
  simp only [h, h']

theorem store_wr (hH : HR w ι H (Al A0 B0 w ι H) B0) {t : TypeId} {a v : AV} {av vv : Value} (ha : VR w ι H (Al A0 B0 w ι H) a av) (hv : VR w ι H (Al A0 B0 w ι H) v vv) {r : AV} {id : Nat} {b : Blk} (h : storeA P t H a v = some (.wr r id b)) :
    r = .undef ∧ ∃ w' L, (Instr.storeAt t av vv).run P w = .ok () w' ∧ Ev w ι H w' (upd ι id (some L)) (upd H id (some b)) ∧ HR w' (upd ι id (some L)) (upd H id (some b)) (Al A0 B0 w' (upd ι id (some L)) (upd H id (some b))) B0 ∧ Below B0 w w' ∧ ι id ≠ none := by
  unfold storeA at h
  split at h
  · rename_i id' g i off
    split at h
    · rename_i B n hB hn
      split at h
      · rename_i hc
        obtain ⟨hg, ho⟩ := hc
        split at h
        · rename_i el hel
          split at h
          · rename_i hcond
            obtain ⟨hfit, hoff, h0⟩ := hcond
            simp only [Option.some.injEq, Out.wr.injEq] at h
            obtain ⟨rfl, rfl, rfl⟩ := h
            refine ⟨rfl, ?_⟩
            obtain ⟨L, hL, rfl⟩ := ha.of_ptr hB hg
            have hb := hH.blk id' B L hB hL
            obtain ⟨c, e, fr, hrow, hcs, hcell⟩ := hb.row
            obtain ⟨h1, h2, h3⟩ := hv.cells hfit
            have helm : el ∈ B.els := List.mem_of_getElem? hel
            have helf := hb.fit el helm
            have hell := (fits_cells helf).1
            have hilt : i < B.els.length := (List.getElem?_eq_some_iff.1 hel).1
            have hil : (i + 1) * B.sz ≤ L.cap * B.sz := Nat.mul_le_mul_right _ (by have := hb.len; omega)
            rw [Nat.add_mul] at hil
            obtain ⟨hfree1, hfree2⟩ := hb.free ho
            have hvl : vv.cells.toList.length = n := by simpa using h1
            obtain ⟨w', c', e1, e2, e3, e4, e5, e6, e7, e8, e9⟩ := storeCells_ok (P := P) vv.cells.toList 0 (L.base + i * B.sz + off) w c hrow (by omega) (fun j hj1 hj2 => hfree2 j (by omega) (by omega)) (by simpa using h3)
            have hset := setCells_cells hfit hoff h0 (by rw [hell]; exact helf)
            have hflat : flat (B.els.set i (setCells el off v.cells)) = (flat B.els).take (i * B.sz + off) ++ v.cells ++ (flat B.els).drop (i * B.sz + off + v.cells.length) := by
              have hvl' := (fits_cells hfit).1
              have hfl := flat_length hb.fit
              rw [flat_set hb.fit hilt, hset.1]
              have helc : el.cells = ((flat B.els).drop (i * B.sz)).take B.sz := by
                apply List.ext_getElem?
                intro k
                by_cases hk : k < B.sz
                · rw [List.getElem?_take_of_lt hk, List.getElem?_drop, List.getElem?_eq_getElem (by omega), flat_getElem? hb.fit hel (List.getElem?_eq_getElem (by omega))]
                · rw [List.getElem?_eq_none (by omega), List.getElem?_eq_none (by simp; omega)]
              have hle : i * B.sz + B.sz ≤ (flat B.els).length := by
                rw [hfl]
                calc i * B.sz + B.sz = (i + 1) * B.sz := by rw [Nat.add_mul]; omega
                  _ ≤ B.els.length * B.sz := Nat.mul_le_mul_right _ hilt
              rw [hell] at hoff
              rw [helc, List.take_take, List.drop_take, List.drop_drop, Nat.min_eq_left (by omega), hvl']
              rw [List.take_add (l := flat B.els) (i := i * B.sz) (j := off)]
              have : (flat B.els).drop (i * B.sz + off + n) = ((flat B.els).drop (i * B.sz + (off + n))).take (B.sz - (off + n)) ++ (flat B.els).drop (i * B.sz + B.sz) := by
                have h9 := (List.take_append_drop (B.sz - (off + n)) ((flat B.els).drop (i * B.sz + (off + n)))).symm
                rw [List.drop_drop, show i * B.sz + (off + n) + (B.sz - (off + n)) = i * B.sz + B.sz by omega] at h9
                rw [Nat.add_assoc]; exact h9
              rw [this]
              simp [List.append_assoc]
            have hst : (Instr.storeAt t (.pointer (some ⟨L.blk, L.base + i * B.sz + off, none⟩)) vv).run P w = .ok () w' := by
              have hsz : ¬ (¬ vv.cells.size = n) := by omega
              simp only [Instr.storeAt, Instr.sureAddr, storeVar, Sem.run_bind, Sem.run_pure, Result.andThen_ok, run_sizeOf_csz hn, Sem.run_ite]
              rw [if_neg (by simpa using h1)]
              simpa using e1
            have hlenset : (B.els.set i (setCells el off v.cells)).length = B.els.length := by simp
            refine ⟨w', L, hst, ?_⟩
            have hvl' := (fits_cells hfit).1
            obtain ⟨q1, q2⟩ := write_ok (w' := w') (B' := { B with els := B.els.set i (setCells el off v.cells) }) (L' := L) hH hB hL ho e5 e6 e2 (frozen_row hrow e2) rfl (Nat.le_refl _) (Nat.le_refl _) (by rw [e3]; exact hcs) (Nat.le_refl _)
              (fun _ => ⟨rfl, by simp, rfl, fun he => by simp [he]⟩) (by rw [hlenset]; exact hb.len)
              (fun x hx => by
                rcases List.mem_or_eq_of_mem_set hx with h | rfl
                · exact hb.fit x h
                · rw [← hell]; exact hset.2)
              (fun k x hk => by
                rw [hflat, splice_get _ _ _ (by rw [flat_length hb.fit, hvl']; rw [hell] at hoff; calc i * B.sz + off + n ≤ (i + 1) * B.sz := by rw [Nat.add_mul]; omega
                  _ ≤ B.els.length * B.sz := Nat.mul_le_mul_right _ hilt), hvl'] at hk
                rw [e4]
                split at hk
                · rename_i hc
                  rw [if_pos (by omega)]
                  obtain ⟨u, hu, hr⟩ := h2 _ x hk
                  refine ⟨u, ?_, hr⟩
                  rw [Array.getElem?_toList, ← hu]
                  congr 1; omega
                · rename_i hc
                  rw [if_neg (by omega)]
                  exact hcell k x hk)
            exact ⟨q1, q2, below_write hfree1 e5 e6 e7 e8 e9, by rw [hL]; simp⟩
          · simp at h
        · simp at h
      · simp at h
    · simp at h
  · simp at h
end
end Go.Ab

/- append to, and copy into, a block of our own; all that turn a block, in one statement. -/
namespace Go.Ab
open Go.RowKit
section
variable {P : Program} {w w' : World} {ι : Plc} {H : Heap} {A0 : Nat → Prop} {B0 : Nat}

/-- What is left behind an operation that turned block 'id' into b. -/
def WrR (w : World) (ι : Plc) (H : Heap) (A0 : Nat → Prop) (B0 : Nat) (v : AV) (id : Nat) (b : Blk) (u : Value) (w' : World) : Prop :=
  ∃ ι', Ev w ι H w' ι' (upd H id (some b)) ∧ HR w' ι' (upd H id (some b)) (Al A0 B0 w' ι' (upd H id (some b))) B0 ∧ VR w' ι' (upd H id (some b)) (Al A0 B0 w' ι' (upd H id (some b))) v u ∧ Below B0 w w' ∧ ∀ j, j ≠ id → ι' j = ι j

theorem flat_drop_get {n : Nat} {els : List AV} (hf : ∀ x ∈ els, x.fits n = true) {off k : Nat} {x : AV} (ho : off ≤ els.length) (h : (flat (els.drop off))[k]? = some x) : (flat els)[off * n + k]? = some x := by
  have : (els.drop off).take els.length = els.drop off := List.take_of_length_le (by simp)
  rw [← this] at h
  exact flat_drop_take hf h ho

theorem flat_take {n : Nat} {els : List AV} (hf : ∀ x ∈ els, x.fits n = true) {off : Nat} (ho : off ≤ els.length) : flat (els.take off) = (flat els).take (off * n) := by
  have h : flat els = flat (els.take off) ++ flat (els.drop off) := by rw [← flat_append, List.take_append_drop]
  have hl : (flat (els.take off)).length = off * n := by rw [flat_length (fun y hy => hf y (List.mem_of_mem_take hy)), List.length_take, Nat.min_eq_left ho]
  rw [h, ← hl, List.take_left]
theorem flat_drop {n : Nat} {els : List AV} (hf : ∀ x ∈ els, x.fits n = true) {off : Nat} (ho : off ≤ els.length) : flat (els.drop off) = (flat els).drop (off * n) := by
  have h : flat els = flat (els.take off) ++ flat (els.drop off) := by rw [← flat_append, List.take_append_drop]
  have hl : (flat (els.take off)).length = off * n := by rw [flat_length (fun y hy => hf y (List.mem_of_mem_take hy)), List.length_take, Nat.min_eq_left ho]
  rw [h, ← hl, List.drop_left]

theorem zero_size {z : AV} {v : Value} {n : Nat} (h : z = ofConst v) (hl : z.cells.length = n) : v.cells.size = n := by
  subst h
  rw [← hl]
  by_cases ha : ∃ cs, v = .agg cs
  · obtain ⟨cs, rfl⟩ := ha; simp [ofConst, AV.cells, Value.cells]
  · have e1 : v.cells = #[v] := by cases v <;> first | rfl | exact absurd ⟨_, rfl⟩ ha
    have e2 : ofConst v = ofCell v := by cases v <;> first | rfl | exact absurd ⟨_, rfl⟩ ha
    have e3 : (ofCell v).cells = [ofCell v] := by unfold ofCell; split <;> rfl
    rw [e1, e2, e3]; rfl

theorem append_wr (hH : HR w ι H (Al A0 B0 w ι H) B0) (hB0 : B0 ≤ w.heap.size) {ρ : Operand → AV} {σ : Operand → Value} (hρ : ∀ x, VR w ι H (Al A0 B0 w ι H) (ρ x) (σ x)) (o : Oper) {s x : Operand} {t t' : TypeId}
    (ho : o.op = .call { callee := .builtin .append, args := #[s, x], argTypes := #[t, t'] }) (hd : (∃ e', P.underlying t' = some (.slice e')) ∨ P.underlying t' = some .string) {r : AV} {id : Nat} {b : Blk} (h : appendA P t H (ρ s) (ρ x) = some (.wr r id b)) :
    ∃ u w', (execOp σ o).run P w = .ok (.value u) w' ∧ WrR w ι H A0 B0 r id b u w' := by
  unfold appendA at h
  split at h
  · rename_i e htk
    split at h
    · rename_i n by_ z hn hb hz
      split at h
      · rename_i hc
        obtain ⟨h0, hzl⟩ := hc
        split at h
        · rename_i new hsrc
          split at h
          · split at h
            · simp at h
            · split at h <;> simp at h
          · rename_i id' g off len hs
            split at h
            · rename_i B hB
              split at h
              · rename_i hcond
                obtain ⟨hg, hown, hsz, hoff, hr⟩ := hcond
                simp only [Option.some.injEq, Out.wr.injEq] at h
                obtain ⟨rfl, rfl, rfl⟩ := h
                obtain ⟨h1, hf, h3⟩ := srcEls_sound (P := P) hH (hρ x) hsrc
                obtain ⟨us, hul, hrun, hv, h1c⟩ := h3 new.length (Nat.le_refl _)
                obtain ⟨i, zv, hi, hzv, hzz⟩ := zero_of_zro hz
                have hsi : i.size = n := by obtain ⟨i', a1, a2⟩ := info_of_csz hn; rw [hi] at a1; cases a1; exact a2
                have hby : i.bytes = by_ := by unfold bsz at hb; rw [hi] at hb; simpa using hb
                simp only [roomOk, Bool.and_eq_true, decide_eq_true_eq] at hr
                rw [← hsi] at hrun
                have hzs : zv.cells.size = n := zero_size hzz hzl
                have hus := srcEls_get hf hul hv
                have exec : ∀ v w', (Builtin.append_ #[t, t'] o.type #[σ s, σ x]).run P w = .ok v w' → (execOp σ o).run P w = .ok (.value v) w' := by
                  intro v w' hh
                  simp only [execOp, ho, resolve, invoke, builtin, Sem.run_bind, Sem.run_pure, Result.andThen_ok, List.map_toArray, List.map_cons, List.map_nil, hh]
                have hsv := hs ▸ hρ s
                -- the block grows into a new one
                have grow : ∀ (base : Option Addr) (cap : Nat) (olds : List Value), σ s = .slice base len cap → cap < len + new.length → olds.length = len * n → (∀ w' : World, w'.heap = w.heap → (Builtin.firstCells n len (.slice base len cap)).run P w' = .ok olds.toArray w') →
                    (∀ (j : Nat) (c : AV), (flat (B.els.drop off))[j]? = some c → ∃ u, olds[j]? = some u ∧ VR w ι H (Al A0 B0 w ι H) c u) → (∀ y ∈ B.els.drop off, y.fits n = true) →
                    ∃ u w', (execOp σ o).run P w = .ok (.value u) w' ∧ WrR w ι H A0 B0 (.ref id' (g + 1) 0 (len + new.length)) id' ⟨n, B.els.drop off ++ new, g + 1, true⟩ u w' := by
                  intro base cap olds es hgr hol hold hoc hfo
                  rw [← hsi] at hold
                  have hr' := run_append_grow' (w := w) (ty := o.type) (und_of_tk_slice htk) hd hi hzv h1 hold hrun hgr (by omega) (by rw [hby]; omega)
                  have hge := grownCap_ge w (len + new.length) cap e
                  have hlo : (B.els.drop off).length = len := by simp; omega
                  have hnew : NewR w ι H (Al A0 B0 w ι H) ⟨n, B.els.drop off ++ new, g + 1, true⟩ (fun id g => .ref id g 0 (len + new.length)) (.slice (some ⟨w.heap.size, 0, none⟩) (len + new.length) (grownCap w (len + new.length) cap e))
                      (w.drew.alloc (.cells (olds.toArray ++ us.toArray ++ Builtin.zeroCells zv.cells (grownCap w (len + new.length) cap e - (len + new.length))) e)) := by
                    refine ⟨_, e, (0, 0), grownCap w (len + new.length) cap e, fun k hk => push_old w.drew _ k hk, push_new w.drew _, by simp, rfl, rfl, rfl, ?_, by rw [List.length_append, hlo]; exact hge, ?_, fun k y hk => ?_, fun o _ => push_free w.drew _ _ _, .inl ⟨len + new.length, by rw [List.length_append, hlo]; omega, rfl, rfl⟩⟩
                    · simp only [Array.size_append, List.size_toArray, size_zeroCells, hzs, hul, hol, ← Nat.add_mul]
                      rw [show len + new.length + (grownCap w (len + new.length) cap e - (len + new.length)) = grownCap w (len + new.length) cap e by omega]
                      exact Nat.le_refl _
                    · intro y hy
                      rcases List.mem_append.1 hy with hy | hy
                      · exact hfo y hy
                      · exact hf y hy
                    · obtain ⟨u, h5, h6⟩ := getElem?_append_cells (by rw [hol, flat_length hfo, hlo]) hoc hus k y hk
                      refine ⟨u, ?_, h6⟩
                      have hlt := (List.getElem?_eq_some_iff.1 h5).1
                      rw [List.length_append] at hlt
                      rw [Array.getElem?_append_left (by simp; omega)]
                      rw [← Array.getElem?_toList]
                      simpa using h5
                  obtain ⟨ι', r1, r2, r3, r4, r5⟩ := new_seq hH hB0 hnew (id := id') (B' := ⟨n, B.els.drop off ++ new, g + 1, true⟩) rfl rfl (fun C hC => by rw [hB] at hC; cases hC; simp; omega)
                  exact ⟨_, _, exec _ _ (by rw [es]; exact hr'), ι', r1, r2, r3, r4.mono hB0, r5⟩
                rcases hsv.of_ref hB hg with ⟨L, oo, cap, hL, es, e1, e2, e3, e4⟩ | ⟨base, es, he, rfl, rfl⟩
                · have hbk := hH.blk id' B L hB hL
                  obtain ⟨c, te, fr, hrow, hcs, hcell⟩ := hbk.row
                  obtain ⟨hfree1, hfree2⟩ := hbk.free hown
                  rw [hsz] at hcs hfree2
                  have hfB : ∀ y ∈ B.els, y.fits n = true := fun y hy => by rw [← hsz]; exact hbk.fit y hy
                  have hlo : (B.els.drop off).length = len := by simp; omega
                  have hfd : ∀ y ∈ B.els.drop off, y.fits n = true := fun y hy => hfB y (List.mem_of_mem_drop hy)
                  by_cases hroom : len + new.length ≤ cap
                  · -- in place
                    have hcapn : (off + cap) * n ≤ L.cap * n := Nat.mul_le_mul_right _ e2
                    rw [Nat.add_mul] at hcapn
                    have hrn : (len + new.length) * n ≤ cap * n := Nat.mul_le_mul_right _ hroom
                    rw [Nat.add_mul] at hrn
                    have hst : ∃ w' c', (storeCells ((⟨L.blk, oo, none⟩ : Addr).add (len * i.size)) us).run P w = .ok () w' ∧ w'.heap[L.blk]? = some (.cells c' te fr) ∧ c'.size = c.size ∧
                        (∀ k, c'[L.base + off * n + k]? = if len * n ≤ k ∧ k < len * n + us.length then us[k - len * n]? else c[L.base + off * n + k]?) ∧ w'.heap.size = w.heap.size ∧ (∀ k, k ≠ L.blk → w'.heap[k]? = w.heap[k]?) ∧ w'.os = w.os ∧ w'.tape = w.tape ∧ w'.output = w.output := by
                      by_cases hm : us = []
                      · subst hm
                        exact ⟨w, c, rfl, hrow, rfl, fun k => by rw [if_neg (by simp)], rfl, fun _ _ => rfl, rfl, rfl, rfl⟩
                      · have hpos : 0 < us.length := List.length_pos_iff.2 hm
                        have hnl : 0 < new.length := by
                          rcases Nat.eq_zero_or_pos new.length with h | h
                          · rw [h] at hul; omega
                          · exact h
                        have hoo : oo = L.base + off * n := by rw [← hsz]; omega
                        obtain ⟨w', c', q1, q2, q3, q4, q5, q6, q7, q8, q9⟩ := storeCells_ok (P := P) us 0 (oo + len * n) w c hrow (by omega) (fun j hj1 hj2 => hfree2 j (by omega) (by omega)) h1c
                        refine ⟨w', c', by rw [add_mk, hsi]; exact q1, q2, q3, fun k => ?_, q5, q6, q7, q8, q9⟩
                        rw [q4]
                        by_cases hk : len * n ≤ k ∧ k < len * n + us.length
                        · rw [if_pos (by omega), if_pos hk]; congr 1; omega
                        · rw [if_neg (by omega), if_neg hk]
                    obtain ⟨w', c', q1, q2, q3, q4, q5, q6, q7, q8, q9⟩ := hst
                    have hlcap : off + cap ≤ L.cap := e2
                    have hsub : (L.cap - off) * n + off * n = L.cap * n := by rw [← Nat.add_mul]; congr 1; omega
                    obtain ⟨p1, p2⟩ := write_ok (w' := w') (B' := ⟨n, B.els.drop off ++ new, g + 1, true⟩) (L' := ⟨L.blk, L.base + off * n, L.cap - off⟩) hH hB hL hown q5 q6 q2 (frozen_row hrow q2) rfl (Nat.le_add_right _ _) (by simp only; rw [hsz]; omega) (by simp only; omega) (by simp only; omega)
                      (fun hh => by simp at hh; omega) (by simp only [List.length_append, hlo]; omega)
                      (fun y hy => by
                        rcases List.mem_append.1 hy with hy | hy
                        · exact hfd y hy
                        · exact hf y hy)
                      (fun k y hk => by
                        simp only at hk ⊢
                        rw [q4]
                        rw [flat_append] at hk
                        have hfl := flat_length hfd
                        rw [hlo] at hfl
                        by_cases hkl : k < len * n
                        · rw [if_neg (by omega)]
                          rw [List.getElem?_append_left (by omega)] at hk
                          obtain ⟨u, a1, a2⟩ := hcell _ y (flat_drop_get hfB (by omega) hk)
                          exact ⟨u, by rw [← a1]; congr 1; omega, a2⟩
                        · rw [List.getElem?_append_right (by omega), hfl] at hk
                          obtain ⟨u, a1, a2⟩ := hus _ y hk
                          have hlt := (List.getElem?_eq_some_iff.1 a1).1
                          rw [if_pos (by omega)]
                          exact ⟨u, a1, a2⟩)
                    rw [hsi] at q1
                    have hr' := run_append_room' (w := w) (w' := w') (ty := o.type) (und_of_tk_slice htk) hd hi (a := ⟨L.blk, oo, none⟩) (sLen := len) (sCap := cap) h1 (hrun w rfl) (by rw [hsi]; exact q1) hroom
                    refine ⟨_, _, exec _ _ (by rw [es]; exact hr'), _, p1, p2, ?_, below_write hfree1 q5 q6 q7 q8 q9, fun j hj => upd_ne _ _ _ _ hj⟩
                    refine .ref id' (g + 1) 0 (len + new.length) oo cap ⟨n, B.els.drop off ++ new, g + 1, true⟩ ⟨L.blk, L.base + off * n, L.cap - off⟩ (upd_same _ _ _) rfl (upd_same _ _ _) (by simp [hlo]) (by simp only; omega) hroom ?_
                    simp only [Nat.zero_mul, Nat.add_zero]
                    rw [← hsz]; exact e4
                  · obtain ⟨olds, ol, o1, o2⟩ := list_of_cells (w := w) (ι := ι) (H := H) (A := Al A0 B0 w ι H) (cs := flat (B.els.drop off)) (f := fun k => c[L.base + off * n + k]?) (fun k y hk => by
                      obtain ⟨u, a1, a2⟩ := hcell _ y (flat_drop_get hfB (by omega) hk)
                      exact ⟨u, by rw [← a1]; congr 1; omega, a2⟩) (len * n) (by rw [flat_length hfd, hlo]; exact Nat.le_refl _)
                    have hfl := flat_length hfd
                    rw [hlo] at hfl
                    refine grow (some ⟨L.blk, oo, none⟩) cap olds es (by omega) ol (fun w' hw' => ?_) (fun j y hj => ?_) hfd
                    · refine run_firstCells_some w' n len _ len cap olds ol fun j v hj => ?_
                      have hjl := (List.getElem?_eq_some_iff.1 hj).1
                      have hl0 : 0 < len := by
                        rcases Nat.eq_zero_or_pos len with h | h
                        · subst h; simp at ol; simp [ol] at hjl
                        · exact h
                      have hoo : oo = L.base + off * n := by rw [← hsz]; omega
                      rw [add_mk, cell_of_row w' _ _ c te fr (by rw [hw']; exact hrow), hoo]
                      exact o1 j v hj
                    · have hjl := (List.getElem?_eq_some_iff.1 hj).1
                      have hlt : j < olds.length := by omega
                      exact ⟨olds[j], by simp [hlt], o2 j y _ (by omega) hj (by simp [hlt])⟩
                · have hdr : B.els.drop 0 = [] := by simp [he]
                  rw [hdr] at grow ⊢
                  by_cases hm : new = []
                  · subst hm
                    obtain ⟨k1, k2⟩ := kill_ok hH (id := id') (B' := ⟨n, [] ++ [], g + 1, true⟩) (fun C hC => by rw [hB] at hC; cases hC; simp; omega)
                    have hu0 : us = [] := List.eq_nil_of_length_eq_zero (by simpa using hul)
                    subst hu0
                    have hr' : (Builtin.append_ #[t, t'] o.type #[.slice base 0 0, σ x]).run P w = .ok (.slice base 0 0) w := by
                      have hrw := hrun w rfl
                      rw [hsi] at hrw
                      simp at h1 hrw
                      cases base with
                      | none => rcases hd with ⟨e', hd⟩ | hd <;> simp [Builtin.append_, run_underlying (und_of_tk_slice htk), run_sizeOf_csz hn, run_underlying hd, h1, hrw]
                      | some a => rcases hd with ⟨e', hd⟩ | hd <;> simp [Builtin.append_, run_underlying (und_of_tk_slice htk), run_sizeOf_csz hn, run_underlying hd, h1, hrw, storeCells]
                    refine ⟨_, _, exec _ _ (by rw [es]; exact hr'), _, k1, k2, ?_, Below.refl _ _, fun j hj => upd_ne _ _ _ _ hj⟩
                    exact .refNil id' (g + 1) _ base (upd_same _ _ _) rfl rfl
                  · have hpos : 0 < new.length := List.length_pos_iff.2 hm
                    refine grow base 0 [] es (by omega) (by simp) (fun w' _ => ?_) (by simp [flat]) (by simp)
                    cases base with
                    | none => simp [Builtin.firstCells]
                    | some a => simp [Builtin.firstCells, loadCells, loadCellsFrom]
              · simp at h
            · simp at h
          · simp at h
        · simp at h
      · simp at h
    · simp at h
  · simp at h

theorem copy_wr (hH : HR w ι H (Al A0 B0 w ι H) B0) {ρ : Operand → AV} {σ : Operand → Value} (hρ : ∀ x, VR w ι H (Al A0 B0 w ι H) (ρ x) (σ x)) (o : Oper) {d x : Operand} {t t' : TypeId}
    (ho : o.op = .call { callee := .builtin .copy, args := #[d, x], argTypes := #[t, t'] }) {r : AV} {id : Nat} {b : Blk} (h : copyA P t H (ρ d) (ρ x) = some (.wr r id b)) :
    ∃ u w', (execOp σ o).run P w = .ok (.value u) w' ∧ WrR w ι H A0 B0 r id b u w' := by
  unfold copyA at h
  split at h
  · rename_i e htk
    split at h
    · rename_i n hn
      split at h
      · rename_i src hsrc
        split at h
        · rename_i id' g off len hs
          split at h
          · rename_i B hB
            split at h
            · rename_i hcond
              obtain ⟨hg, hown, hsz, hoff⟩ := hcond
              simp only [Option.some.injEq, Out.wr.injEq] at h
              obtain ⟨rfl, rfl, rfl⟩ := h
              obtain ⟨h1, hf, h3⟩ := srcEls_sound (P := P) hH (hρ x) hsrc
              obtain ⟨us, hul, hrun, hv, h1c⟩ := h3 (min src.length len) (Nat.min_le_left _ _)
              have hrun := hrun w rfl
              generalize hm : min src.length len = m at *
              have hm' : Nat.min src.length len = m := hm
              have hms : m ≤ src.length := by omega
              have hml : m ≤ len := by omega
              have exec : ∀ base cap w', σ d = .slice base len cap → (∀ a, base = some a → (storeCells a us).run P w = .ok () w') → (base = none → w' = w) → (execOp σ o).run P w = .ok (.value (.int .i64 m)) w' := by
                intro base cap w' e1 e2 e3
                cases base with
                | none => rw [e3 rfl]; simp [execOp, ho, resolve, invoke, builtin, Builtin.copy_, run_underlying (und_of_tk_slice htk), e1, run_sizeOf_csz hn, h1, hm', hrun, goInt]
                | some a => simp [execOp, ho, resolve, invoke, builtin, Builtin.copy_, run_underlying (und_of_tk_slice htk), e1, run_sizeOf_csz hn, h1, hm', hrun, goInt, e2 a rfl]
              have hsv := hs ▸ hρ d
              have hft : ∀ y ∈ src.take m, y.fits n = true := fun y hy => hf y (List.mem_of_mem_take hy)
              have same : m = 0 → B.els.take off ++ src.take m ++ B.els.drop (off + m) = B.els := by intro h; subst h; simp
              by_cases hm0 : m = 0
              · have hu0 : us = [] := List.eq_nil_of_length_eq_zero (by rw [hul, hm0]; simp)
                subst hu0
                obtain ⟨base, cap, e1⟩ : ∃ base cap, σ d = .slice base len cap := by
                  rcases hsv.of_ref hB hg with ⟨L, oo, cap, _, es, _⟩ | ⟨base, es, _, _, rfl⟩
                  · exact ⟨_, _, es⟩
                  · exact ⟨_, _, es⟩
                have hH' : upd H id' (some ⟨n, B.els.take off ++ src.take m ++ B.els.drop (off + m), g, true⟩) = H := by
                  funext j
                  simp only [upd]
                  split
                  · rename_i e; subst e; rw [hB, same hm0]; cases B; simp_all
                  · rfl
                refine ⟨_, w, exec base cap w e1 (fun a _ => rfl) (fun _ => rfl), ι, ?_⟩
                rw [hH']
                exact ⟨Ev.refl _ _ _, hH, .data _ _ (.int _ _), Below.refl _ _, fun _ _ => rfl⟩
              · rcases hsv.of_ref hB hg with ⟨L, oo, cap, hL, es, e1, e2, e3, e4⟩ | ⟨base, es, he, rfl, rfl⟩
                · have hbk := hH.blk id' B L hB hL
                  obtain ⟨c, te, fr, hrow, hcs, hcell⟩ := hbk.row
                  obtain ⟨hfree1, hfree2⟩ := hbk.free hown
                  rw [hsz] at hcs hfree2
                  have hfB : ∀ y ∈ B.els, y.fits n = true := fun y hy => by rw [← hsz]; exact hbk.fit y hy
                  have hcapn : (off + cap) * n ≤ L.cap * n := Nat.mul_le_mul_right _ e2
                  rw [Nat.add_mul] at hcapn
                  have hmn : m * n ≤ cap * n := Nat.mul_le_mul_right _ (by omega)
                  have hoo : oo = L.base + off * n := by rw [← hsz]; omega
                  obtain ⟨w', c', q1, q2, q3, q4, q5, q6, q7, q8, q9⟩ := storeCells_ok (P := P) us 0 oo w c hrow (by omega) (fun j hj1 hj2 => hfree2 j (by omega) (by omega)) h1c
                  have hfl := flat_length hfB
                  have hle : off * n + m * n ≤ (flat B.els).length := by rw [hfl, ← Nat.add_mul]; exact Nat.mul_le_mul_right _ (by omega)
                  have hflat : flat (B.els.take off ++ src.take m ++ B.els.drop (off + m)) = (flat B.els).take (off * n) ++ flat (src.take m) ++ (flat B.els).drop (off * n + (flat (src.take m)).length) := by
                    have hsl : (flat (src.take m)).length = m * n := by rw [flat_length hft, List.length_take, Nat.min_eq_left hms]
                    have ht := flat_take hfB (off := off) (by omega)
                    have hdr := flat_drop hfB (off := off + m) (by omega)
                    rw [Nat.add_mul] at hdr
                    rw [flat_append, flat_append, ht, hdr, hsl]
                  have hsl : (flat (src.take m)).length = m * n := by rw [flat_length hft, List.length_take, Nat.min_eq_left hms]
                  have hlen' : (B.els.take off ++ src.take m ++ B.els.drop (off + m)).length = B.els.length := by simp; omega
                  obtain ⟨p1, p2⟩ := write_ok (w' := w') (B' := ⟨n, B.els.take off ++ src.take m ++ B.els.drop (off + m), g, true⟩) (L' := L) hH hB hL hown q5 q6 q2 (frozen_row hrow q2) rfl (Nat.le_refl _) (by simp only; rw [hsz]; exact Nat.le_refl _) (by simp only; omega) (by simp; omega)
                    (fun _ => ⟨hsz.symm, by simp only; omega, rfl, fun hh => by rw [hh] at e1; simp at e1; omega⟩) (by simp only; rw [hlen']; exact hbk.len)
                    (fun y hy => by
                      simp only [List.mem_append] at hy
                      rcases hy with (hy | hy) | hy
                      · exact hfB y (List.mem_of_mem_take hy)
                      · exact hft y hy
                      · exact hfB y (List.mem_of_mem_drop hy))
                    (fun k y hk => by
                      simp only at hk
                      rw [hflat, splice_get _ _ _ (by omega), hsl] at hk
                      rw [q4]
                      split at hk
                      · rename_i hc
                        rw [if_pos (by omega)]
                        have hk2 : (flat src)[k - off * n]? = some y := by
                          rw [← List.take_append_drop m src, flat_append, List.getElem?_append_left (by omega)]; exact hk
                        have hlt : k - off * n < us.length := by omega
                        refine ⟨us[k - off * n], ?_, hv _ y _ hk2 (by simp [hlt])⟩
                        rw [List.getElem?_eq_getElem (by omega)]
                        congr 2; omega
                      · rename_i hc
                        rw [if_neg (by omega)]
                        exact hcell k y hk)
                  refine ⟨_, _, exec _ _ w' es (fun a ha => by cases ha; exact q1) (fun h => by cases h), _, p1, p2, .data _ _ (.int _ _), below_write hfree1 q5 q6 q7 q8 q9, fun j hj => upd_ne _ _ _ _ hj⟩
                · omega
            · simp at h
          · simp at h
        · simp at h
        · split at h <;> simp at h
        · simp at h
      · simp at h
    · simp at h
  · simp at h

theorem aop_wr (hH : HR w ι H (Al A0 B0 w ι H) B0) (hB0 : B0 ≤ w.heap.size) {ρ : Operand → AV} {σ : Operand → Value} (hρ : ∀ x, VR w ι H (Al A0 B0 w ι H) (ρ x) (σ x)) (o : Oper) {r : AV} {id : Nat} {b : Blk} (h : aop P o.op ρ H = some (.wr r id b)) :
    ∃ nx u w', (execOp σ o).run P w = .ok nx w' ∧ (nx = .value u ∨ nx = .skip ∧ u = undef) ∧ WrR w ι H A0 B0 r id b u w' := by
  unfold aop at h
  split at h
  case h_1 | h_2 => simp at h
  case h_3 => split at h <;> simp at h
  case h_4 => split at h <;> (try split at h) <;> simp at h
  case h_5 => split at h <;> simp at h
  case h_6 =>
    split at h
    · split at h
      · rw [Option.map_eq_some_iff] at h; obtain ⟨_, _, h⟩ := h; cases h
      · simp at h
    · simp at h
  case h_7 =>
    split at h
    · split at h
      · split at h
        · rw [Option.map_eq_some_iff] at h; obtain ⟨_, _, h⟩ := h; cases h
        · simp at h
      · simp at h
    · simp at h
  case h_8 =>
    split at h
    · rw [Option.map_eq_some_iff] at h; obtain ⟨_, _, h⟩ := h; cases h
    · simp at h
  case h_9 =>
    rename_i t a v ho
    obtain ⟨rfl, w', L, e1, e2, e3, e4, e5⟩ := store_wr (P := P) hH (hρ a) (hρ v) h
    refine ⟨.skip, undef, w', by simp [execOp, ho, e1], .inr ⟨rfl, rfl⟩, _, e2, e3, .data _ _ (.undef _), e4, fun j hj => upd_ne _ _ _ _ hj⟩
  case h_10 | h_11 | h_12 => rw [Option.map_eq_some_iff] at h; obtain ⟨_, _, h⟩ := h; cases h
  case h_13 =>
    unfold convA at h
    split at h
    · split at h <;> (try split at h) <;> simp at h
    · split at h
      · split at h <;> (try split at h) <;> simp at h
      · simp at h
    · split at h
      · split at h
        · split at h
          · rw [Option.map_eq_some_iff] at h; obtain ⟨_, _, h⟩ := h; cases h
          · simp at h
        · simp at h
      · simp at h
  case h_14 => unfold mkFuncA at h; (repeat' split at h) <;> simp at h
  case h_15 => unfold makeSliceA at h; (repeat' split at h) <;> simp at h
  case h_16 | h_17 => rw [Option.map_eq_some_iff] at h; obtain ⟨_, _, h⟩ := h; cases h
  case h_18 =>
    split at h
    · split at h
      · rw [Option.map_eq_some_iff] at h; obtain ⟨_, _, h⟩ := h; cases h
      · simp at h
    · simp at h
  case h_19 | h_20 | h_21 => rw [Option.map_eq_some_iff] at h; obtain ⟨_, _, h⟩ := h; cases h
  case h_22 =>
    rename_i c ho
    split at h
    · rename_i b' hb
      obtain ⟨callee, args, argTypes⟩ := c
      simp only at hb h; subst hb
      obtain ⟨args⟩ := args
      obtain ⟨ts⟩ := argTypes
      simp only at h
      unfold biA at h
      split at h
      · split at h
        · rw [Option.map_eq_some_iff] at h; obtain ⟨_, _, h⟩ := h; cases h
        · simp at h
      · split at h
        · split at h
          · split at h
            · rename_i htk
              obtain ⟨u, w', h1, h2⟩ := append_wr hH hB0 hρ o ho (.inl ⟨_, und_of_tk_slice htk⟩) h
              exact ⟨_, u, w', h1, .inl rfl, h2⟩
            · rename_i htk
              obtain ⟨u, w', h1, h2⟩ := append_wr hH hB0 hρ o ho (.inr (und_of_tk_str htk)) h
              exact ⟨_, u, w', h1, .inl rfl, h2⟩
            · simp at h
          · simp at h
        · split at h
          · obtain ⟨u, w', h1, h2⟩ := copy_wr hH hρ o ho h
            exact ⟨_, u, w', h1, .inl rfl, h2⟩
          · simp at h
        · rw [Option.map_eq_some_iff] at h; obtain ⟨_, _, h⟩ := h; cases h
        · rw [Option.map_eq_some_iff] at h; obtain ⟨_, _, h⟩ := h; cases h
        · simp at h
      · simp at h
    · simp at h
  case h_23 => simp at h
end
end Go.Ab

/- What is handed over at a call, as data; what a contract says; what a call gives. -/
namespace Go.Ab
open Go.RowKit

/-- A cell that is data as it stands. -/
def isDc : AV → Bool
  | .int .. | .bool _ | .str _ | .lst _ | .dptr _ | .undef => true
  | .func _ caps => caps.isEmpty
  | _ => false
def isD : AV → Bool
  | .agg cs => cs.all isDc
  | v => isDc v
def dcs (f : AV → Option AV) (cs : List AV) : Option (List AV) := if cs.all isDc then some cs else cs.mapM f
def de (f : AV → Option AV) : AV → Option AV
  | .agg cs => (dcs f cs).map .agg
  | x => f x
def dl (f : AV → Option AV) (xs : List AV) : Option (List AV) := if xs.all isD then some xs else xs.mapM (de f)
/-- A cell as data. ro: of blocks alone that are not written any more. -/
def dc (ro : Bool) (H : Heap) : Nat → AV → Option AV
  | 0, x => if isDc x then some x else none
  | n + 1, x =>
    match x with
    | .nil => some (.lst [])
    | .ref id g off len => match H id with
      | some B => if B.gen = g ∧ off + len ≤ B.els.length ∧ (ro = true → B.own = false) then (dl (dc ro H n) ((B.els.drop off).take len)).map .lst else none
      | none => none
    | .ptr id g i off => match H id with
      | some B => if B.gen = g ∧ (ro = true → B.own = false) then (match B.els[i]? with
        | some el => if off ≤ el.cells.length then (dcs (dc ro H n) (el.cells.drop off)).map .dptr else none
        | none => none) else none
      | none => none
    | .func f caps => (dcs (dc ro H n) caps).map (.func f)
    | x => if isDc x then some x else none
def dval (ro : Bool) (H : Heap) (x : AV) : Option AV := de (dc ro H 6) x

section
variable {P : Program} {w w' : World} {ι : Plc} {H : Heap} {A0 : Nat → Prop} {B0 : Nat}

def Ar (ro : Bool) (A0 : Nat → Prop) (B0 : Nat) (w : World) (ι : Plc) (H : Heap) (b : Nat) : Prop := (A0 b ∨ B0 ≤ b) ∧ b < w.heap.size ∧ (ro = true → NotOwn ι H b)

theorem Al.ar {ro : Bool} {b : Nat} (h : Al A0 B0 w ι H b) : Ar ro A0 B0 w ι H b := ⟨h.1, h.2.1, fun _ => h.2.2⟩

theorem VR.isDc {A : Nat → Prop} {x : AV} {v : Value} (h : VR w ι H A x v) (hx : isDc x = true) : DR w A x v := by
  cases h with
  | data _ _ h => exact h
  | agg => simp [Ab.isDc] at hx
  | tup => simp [Ab.isDc] at hx
  | ref => simp [Ab.isDc] at hx
  | refNil => simp [Ab.isDc] at hx
  | refDead => simp [Ab.isDc] at hx
  | ptr => simp [Ab.isDc] at hx
  | ptrDead => simp [Ab.isDc] at hx
  | func f caps vs e h =>
    simp [Ab.isDc] at hx; subst hx
    exact .func f [] vs e (by simp)

/-- c is c0 as data. -/
def DCell (f : AV → Option AV) (c0 c : AV) : Prop := f c0 = some c ∨ (isDc c0 = true ∧ c = c0)

theorem mapM_get {f : AV → Option AV} : ∀ {xs ys : List AV}, xs.mapM f = some ys → xs.length = ys.length ∧ ∀ (k : Nat) (y : AV), ys[k]? = some y → ∃ x, xs[k]? = some x ∧ f x = some y := by
  intro xs
  induction xs with
  | nil => intro ys h; simp at h; subst h; simp
  | cons x xs ih =>
    intro ys h
    simp only [List.mapM_cons] at h
    cases hx : f x with
    | none => simp [hx] at h
    | some y =>
      cases hr : xs.mapM f with
      | none => simp [hx, hr] at h
      | some ys' =>
        simp [hx, hr] at h; subst h
        obtain ⟨h1, h2⟩ := ih hr
        refine ⟨by simp [h1], fun k z hk => ?_⟩
        cases k with
        | zero => simp at hk; subst hk; exact ⟨x, by simp, hx⟩
        | succ k => simp at hk; obtain ⟨u, h3, h4⟩ := h2 k z hk; exact ⟨u, by simpa using h3, h4⟩

theorem dcs_get {f : AV → Option AV} {cs ds : List AV} (h : dcs f cs = some ds) : cs.length = ds.length ∧ ∀ (k : Nat) (c : AV), ds[k]? = some c → ∃ c0, cs[k]? = some c0 ∧ DCell f c0 c := by
  unfold dcs at h
  split at h
  · rename_i ha
    simp at h; subst h
    simp only [List.all_eq_true] at ha
    exact ⟨rfl, fun k c hk => ⟨c, hk, .inr ⟨ha c (List.mem_of_getElem? hk), rfl⟩⟩⟩
  · obtain ⟨h1, h2⟩ := mapM_get h
    exact ⟨h1, fun k c hk => by obtain ⟨x, a, b⟩ := h2 k c hk; exact ⟨x, a, .inl b⟩⟩

theorem dc_isCell {ro : Bool} {n : Nat} {x d : AV} (h : dc ro H n x = some d) (hx : x.isCell = true) : d.isCell = true := by
  cases n with
  | zero =>
    simp only [dc] at h
    split at h
    · simp at h; subst h; exact hx
    · simp at h
  | succ n =>
    simp only [dc] at h
    split at h
    · simp at h; subst h; rfl
    · split at h
      · split at h
        · rw [Option.map_eq_some_iff] at h; obtain ⟨_, _, rfl⟩ := h; rfl
        · simp at h
      · simp at h
    · split at h
      · split at h
        · split at h
          · split at h
            · rw [Option.map_eq_some_iff] at h; obtain ⟨_, _, rfl⟩ := h; rfl
            · simp at h
          · simp at h
        · simp at h
      · simp at h
    · rw [Option.map_eq_some_iff] at h; obtain ⟨_, _, rfl⟩ := h; rfl
    · split at h
      · simp at h; subst h; exact hx
      · simp at h

theorem DCell.isCell {ro : Bool} {n : Nat} {x d : AV} (h : DCell (dc ro H n) x d) (hx : x.isCell = true) : d.isCell = true := by
  rcases h with h | ⟨_, rfl⟩
  · exact dc_isCell h hx
  · exact hx

theorem dcs_cells {ro : Bool} {n : Nat} {cs ds : List AV} (h : dcs (dc ro H n) cs = some ds) (hc : ∀ c ∈ cs, c.isCell = true) : ∀ d ∈ ds, d.isCell = true := by
  obtain ⟨_, h2⟩ := dcs_get h
  intro d hd
  obtain ⟨k, hk⟩ := List.mem_iff_getElem?.1 hd
  obtain ⟨c0, h3, h4⟩ := h2 k d hk
  exact h4.isCell (hc c0 (List.mem_of_getElem? h3))

theorem de_get {ro : Bool} {n m : Nat} {x d : AV} (h : de (dc ro H n) x = some d) (hf : x.fits m = true) : d.fits m = true ∧ ∀ (k : Nat) (c : AV), d.cells[k]? = some c → ∃ c0, x.cells[k]? = some c0 ∧ DCell (dc ro H n) c0 c := by
  obtain ⟨hl, hc⟩ := fits_cells hf
  unfold de at h
  split at h
  · rename_i cs
    rw [Option.map_eq_some_iff] at h
    obtain ⟨ds, hd, rfl⟩ := h
    obtain ⟨h1, h2⟩ := dcs_get hd
    simp only [AV.cells] at hl hc ⊢
    refine ⟨?_, h2⟩
    simp only [AV.fits, AV.cells, Bool.and_eq_true, beq_iff_eq, List.all_eq_true]
    exact ⟨by omega, dcs_cells hd hc⟩
  · rename_i hno
    have hxc : x.cells = [x] := by cases x <;> first | rfl | exact absurd rfl (hno _)
    rw [hxc] at hl hc
    have hd := dc_isCell h (hc x (by simp))
    have hdc : d.cells = [d] := by cases d <;> first | rfl | (simp [AV.isCell] at hd)
    rw [hxc, hdc]
    refine ⟨by simp [AV.fits, hdc, hd]; simpa using hl, fun k c hk => ?_⟩
    cases k with
    | zero => simp at hk; subst hk; exact ⟨x, by simp, .inl h⟩
    | succ k => simp at hk

theorem mapM_de_get {ro : Bool} {n m : Nat} {xs ds : List AV} (h : xs.mapM (de (dc ro H n)) = some ds) (hf : ∀ x ∈ xs, x.fits m = true) :
    xs.length = ds.length ∧ (∀ d ∈ ds, d.fits m = true) ∧ ∀ (k : Nat) (c : AV), (flat ds)[k]? = some c → ∃ c0, (flat xs)[k]? = some c0 ∧ DCell (dc ro H n) c0 c := by
  induction xs generalizing ds with
  | nil => simp at h; subst h; simp [flat]
  | cons x xs ih =>
    simp only [List.mapM_cons] at h
    cases hx : de (dc ro H n) x with
    | none => simp [hx] at h
    | some d =>
      cases hr : xs.mapM (de (dc ro H n)) with
      | none => simp [hx, hr] at h
      | some ds' =>
        simp [hx, hr] at h; subst h
        obtain ⟨h1, h2, h3⟩ := ih hr (fun y hy => hf y (by simp [hy]))
        obtain ⟨h4, h5⟩ := de_get hx (hf x (by simp))
        refine ⟨by simp [h1], ?_, fun k c hk => ?_⟩
        · intro y hy
          simp at hy
          rcases hy with rfl | hy
          · exact h4
          · exact h2 y hy
        · have l1 := (fits_cells h4).1
          have l2 := (fits_cells (hf x (by simp))).1
          simp only [flat, List.flatMap_cons] at hk ⊢
          by_cases hlt : k < d.cells.length
          · rw [List.getElem?_append_left hlt] at hk
            obtain ⟨c0, a, b⟩ := h5 k c hk
            exact ⟨c0, by rw [List.getElem?_append_left (by omega)]; exact a, b⟩
          · rw [List.getElem?_append_right (by omega)] at hk
            obtain ⟨c0, a, b⟩ := h3 _ c hk
            refine ⟨c0, ?_, b⟩
            rw [List.getElem?_append_right (by omega), l2, ← l1]; exact a

theorem dl_get {ro : Bool} {n m : Nat} {xs ds : List AV} (h : dl (dc ro H n) xs = some ds) (hf : ∀ x ∈ xs, x.fits m = true) :
    xs.length = ds.length ∧ (∀ d ∈ ds, d.fits m = true) ∧ ∀ (k : Nat) (c : AV), (flat ds)[k]? = some c → ∃ c0, (flat xs)[k]? = some c0 ∧ DCell (dc ro H n) c0 c := by
  unfold dl at h
  split at h
  · rename_i ha
    simp at h; subst h
    refine ⟨rfl, hf, fun k c hk => ⟨c, hk, .inr ⟨?_, rfl⟩⟩⟩
    have hm := List.mem_of_getElem? hk
    simp only [flat, List.mem_flatMap] at hm
    obtain ⟨x, hx, hc⟩ := hm
    simp only [List.all_eq_true] at ha
    have hxd := ha x hx
    unfold isD at hxd
    split at hxd
    · simp only [List.all_eq_true] at hxd; exact hxd c hc
    · rename_i hno
      have hxc : x.cells = [x] := by cases x <;> first | rfl | exact absurd rfl (hno _)
      rw [hxc] at hc; simp at hc; subst hc; exact hxd
  · exact mapM_de_get h hf

theorem notOwn_of {A : Nat → Prop} (hH : HR w ι H A B0) {id : Nat} {B : Blk} {L : Loc} (hB : H id = some B) (hL : ι id = some L) (ho : B.own = false) : NotOwn ι H L.blk := by
  intro i C M h1 h2 h3 e
  by_cases hi : i = id
  · subst hi; rw [hB] at h1; cases h1; simp [ho] at h3
  · exact hH.sep i id C B M L h1 h2 hB hL hi h3 e.symm

theorem dc_sound (hH : HR w ι H (Al A0 B0 w ι H) B0) {ro : Bool} : ∀ (n : Nat) {x : AV} {v : Value} {d : AV}, VR w ι H (Al A0 B0 w ι H) x v → dc ro H n x = some d → DR w (Ar ro A0 B0 w ι H) d v := by
  have base : ∀ {x : AV} {v : Value}, VR w ι H (Al A0 B0 w ι H) x v → isDc x = true → DR w (Ar ro A0 B0 w ι H) x v := fun h hx => (h.isDc hx).mono fun b hb => ⟨hb.ar, rfl⟩
  intro n
  induction n with
  | zero =>
    intro x v d hv h
    simp only [dc] at h
    split at h
    · simp at h; subst h; exact base hv ‹_›
    · simp at h
  | succ n ih =>
    have cell : ∀ {c0 c : AV} {u : Value}, DCell (dc ro H n) c0 c → VR w ι H (Al A0 B0 w ι H) c0 u → DR w (Ar ro A0 B0 w ι H) c u := by
      intro c0 c u h hu
      rcases h with h | ⟨h, rfl⟩
      · exact ih hu h
      · exact base hu h
    intro x v d hv h
    simp only [dc] at h
    split at h
    · simp at h; subst h
      obtain ⟨b, rfl⟩ := hv.of_nil
      exact .lst0 _ _
    · rename_i id g off len
      split at h
      · rename_i B hB
        split at h
        · rename_i hc
          obtain ⟨hg, hle, hro⟩ := hc
          rw [Option.map_eq_some_iff] at h
          obtain ⟨ds, hd, rfl⟩ := h
          rcases hv.of_ref hB hg with ⟨L, o, cap, hL, rfl, e1, e2, e3, e4⟩ | ⟨b, rfl, he, rfl, rfl⟩
          · have hb := hH.blk id B L hB hL
            obtain ⟨cc, e, fr, hrow, hcs, hcell⟩ := hb.row
            have hf : ∀ y ∈ (B.els.drop off).take len, y.fits B.sz = true := fun y hy => hb.fit y (List.mem_of_mem_drop (List.mem_of_mem_take hy))
            obtain ⟨h1, h2, h3⟩ := dl_get hd hf
            have hlen : ds.length = len := by rw [← h1]; simp; omega
            have har : Ar ro A0 B0 w ι H L.blk := ⟨.inr hb.low, hb.lt, fun h => notOwn_of hH hB hL (hro h)⟩
            have hcells : ∀ (k : Nat) (c : AV), (flat ds)[k]? = some c → ∃ u, w.cell? ((⟨L.blk, o, none⟩ : Addr).add k) = some u ∧ DR w (Ar ro A0 B0 w ι H) c u := by
              intro k c hk
              obtain ⟨c0, h4, h5⟩ := h3 k c hk
              obtain ⟨u, h6, h7⟩ := hcell _ c0 (flat_drop_take hb.fit h4 (by omega))
              have hlt := (List.getElem?_eq_some_iff.1 h4).1
              rw [flat_length hf] at hlt
              have h0 : cap ≠ 0 := by
                intro h0
                have : len = 0 := by omega
                rw [this] at hlt
                simp at hlt
              have ho : o = L.base + off * B.sz := by omega
              refine ⟨u, ?_, cell h5 h7⟩
              rw [add_mk, cell_of_row w _ _ cc e fr hrow, ← h6, ho]
              congr 1; omega
            refine .lst B.sz ds _ len cap (fun k => (w.cell? ((⟨L.blk, o, none⟩ : Addr).add k)).getD undef) hlen.symm e3 h2 (fun k hk => ?_) fun k c hk => ?_
            · obtain ⟨u, h6, _⟩ := hcells k _ (List.getElem?_eq_getElem hk)
              exact ⟨har, by rw [h6]; rfl⟩
            · obtain ⟨u, h6, h7⟩ := hcells k c hk
              rw [h6]; exact h7
          · have : ds = [] := by
              have hd' : dl (dc ro H n) [] = some ds := by simpa [he] using hd
              simp [dl] at hd'; exact hd'
            subst this
            exact .lst0 _ _
        · simp at h
      · simp at h
    · rename_i id g i off
      split at h
      · rename_i B hB
        split at h
        · rename_i hc
          obtain ⟨hg, hro⟩ := hc
          split at h
          · rename_i el hel
            split at h
            · rename_i hoff
              rw [Option.map_eq_some_iff] at h
              obtain ⟨ds, hd, rfl⟩ := h
              obtain ⟨L, hL, rfl⟩ := hv.of_ptr hB hg
              have hb := hH.blk id B L hB hL
              obtain ⟨cc, e, fr, hrow, hcs, hcell⟩ := hb.row
              obtain ⟨h1, h2⟩ := dcs_get hd
              have har : Ar ro A0 B0 w ι H L.blk := ⟨.inr hb.low, hb.lt, fun h => notOwn_of hH hB hL (hro h)⟩
              have hcells : ∀ (k : Nat) (c : AV), ds[k]? = some c → ∃ u, w.cell? ((⟨L.blk, L.base + i * B.sz + off, none⟩ : Addr).add k) = some u ∧ DR w (Ar ro A0 B0 w ι H) c u := by
                intro k c hk
                obtain ⟨c0, h4, h5⟩ := h2 k c hk
                rw [List.getElem?_drop] at h4
                obtain ⟨u, h6, h7⟩ := hcell _ c0 (flat_getElem? hb.fit hel h4)
                refine ⟨u, ?_, cell h5 h7⟩
                rw [add_mk, cell_of_row w _ _ cc e fr hrow, ← h6]
                congr 1; omega
              refine .dptr ds _ (fun k => (w.cell? ((⟨L.blk, L.base + i * B.sz + off, none⟩ : Addr).add k)).getD undef) (dcs_cells hd fun c hc => (fits_cells (hb.fit el (List.mem_of_getElem? hel))).2 c (List.mem_of_mem_drop hc)) (fun k hk => ?_) fun k c hk => ?_
              · obtain ⟨u, h6, _⟩ := hcells k _ (List.getElem?_eq_getElem hk)
                exact ⟨har, by rw [h6]; rfl⟩
              · obtain ⟨u, h6, h7⟩ := hcells k c hk
                rw [h6]; exact h7
            · simp at h
          · simp at h
        · simp at h
      · simp at h
    · rename_i f caps
      rw [Option.map_eq_some_iff] at h
      obtain ⟨ds, hd, rfl⟩ := h
      obtain ⟨vs, rfl, hl, hvs⟩ := hv.of_func
      obtain ⟨h1, h2⟩ := dcs_get hd
      refine .func f ds vs (by omega) fun k c u hk hu => ?_
      obtain ⟨c0, h4, h5⟩ := h2 k c hk
      exact cell h5 (hvs k c0 u h4 hu)
    · split at h
      · simp at h; subst h; exact base hv ‹_›
      · simp at h

theorem dval_sound (hH : HR w ι H (Al A0 B0 w ι H) B0) {ro : Bool} {x : AV} {v : Value} {d : AV} (hv : VR w ι H (Al A0 B0 w ι H) x v) (h : dval ro H x = some d) : DR w (Ar ro A0 B0 w ι H) d v := by
  unfold dval de at h
  split at h
  · rename_i cs
    rw [Option.map_eq_some_iff] at h
    obtain ⟨ds, hd, rfl⟩ := h
    obtain ⟨vs, rfl, hl, hvs⟩ := hv.of_agg
    obtain ⟨h1, h2⟩ := dcs_get hd
    refine .agg ds vs (by omega) fun k c u hk hu => ?_
    obtain ⟨c0, h4, h5⟩ := h2 k c hk
    rcases h5 with h5 | ⟨h5, rfl⟩
    · exact dc_sound hH 6 (hvs k c0 u h4 hu) h5
    · exact ((hvs k c u h4 hu).isDc h5).mono fun b hb => ⟨hb.ar, rfl⟩
  · exact dc_sound hH 6 hv h
end
end Go.Ab

/- Contracts; what a call gives; one step of a region. -/
namespace Go.Ab
open Go.RowKit

/-- A slice that is handed over with its block: a new one, or nil. -/
def OwnV (w' : World) (n0 : Nat) (A : Nat → Prop) (ob : Option Nat) (sz : Nat) (xs : List AV) (v : Value) : Prop :=
  (xs = [] ∧ ∃ base, v = .slice base 0 0) ∨
  ∃ blk base o cap c e fr, ob = some blk ∧ n0 ≤ blk ∧ v = .slice (some ⟨blk, o, none⟩) xs.length cap ∧ (cap = 0 ∨ o = base) ∧ w'.heap[blk]? = some (.cells c e fr) ∧ base + cap * sz ≤ c.size ∧ xs.length ≤ cap ∧
    (∀ x ∈ xs, x.fits sz = true) ∧ (∀ k, base ≤ k → k < base + cap * sz → w'.frozen? ⟨blk, k, none⟩ = false) ∧
    ∀ (k : Nat) (x : AV), (flat xs)[k]? = some x → ∃ u, c[base + k]? = some u ∧ DR w' (fun b => (A b ∨ n0 ≤ b) ∧ b < w'.heap.size ∧ ob ≠ some b) x u
def RCc (w' : World) (n0 : Nat) (A : Nat → Prop) (ob : Option Nat) (r : AV) (v : Value) : Prop :=
  match r with
  | .own sz xs => OwnV w' n0 A ob sz xs v
  | r => DR w' (fun b => (A b ∨ n0 ≤ b) ∧ b < w'.heap.size ∧ ob ≠ some b) r v
def RC1 (w' : World) (n0 : Nat) (A : Nat → Prop) (ob : Option Nat) (r : AV) (v : Value) : Prop :=
  match r with
  | .own sz xs => OwnV w' n0 A ob sz xs v
  | .agg cs => ∃ vs : Array Value, v = .agg vs ∧ cs.length = vs.size ∧ ∀ (k : Nat) (c : AV) (u : Value), cs[k]? = some c → vs[k]? = some u → RCc w' n0 A ob c u
  | r => DR w' (fun b => (A b ∨ n0 ≤ b) ∧ b < w'.heap.size ∧ ob ≠ some b) r v
def RRes (w' : World) (n0 : Nat) (A : Nat → Prop) (r : AV) (v : Value) : Prop :=
  ∃ ob, match r with
    | .tup rs => ∃ vs : Array Value, v = .tuple vs ∧ rs.length = vs.size ∧ ∀ (k : Nat) (r : AV) (u : Value), rs[k]? = some r → vs[k]? = some u → RC1 w' n0 A ob r u
    | r => RC1 w' n0 A ob r v

/-- THE CONTRACT: data in, data out; nothing that was there is turned. -/
def AC (P : Program) (f : FuncId) (args : List AV) (res : AV) : Prop :=
  (∀ vs w, (callFunc f vs).run P w = .ok (.enter f vs) w) ∧ ∀ (w : World) (A : Nat → Prop) (vs : Array Value), (∀ b, A b → b < w.heap.size) → args.length = vs.size → (∀ (k : Nat) (x : AV) (v : Value), args[k]? = some x → vs[k]? = some v → DR w A x v) →
    Calls P f vs w fun e w' => ∃ v, e = .returned v ∧ Below w.heap.size w w' ∧ RRes w' w.heap.size A res v

/-- The contract of a function that is handed a part of our own heap. -/
def AW (P : Program) (f : FuncId) (args : List AV) (H : Heap) (res : AV) (H' : Heap) : Prop :=
  (∀ vs w, (callFunc f vs).run P w = .ok (.enter f vs) w) ∧ ∀ (w : World) (ι : Plc) (A0 : Nat → Prop) (B0 : Nat) (vs : Array Value), B0 ≤ w.heap.size → HR w ι H (Al A0 B0 w ι H) B0 → args.length = vs.size →
    (∀ (k : Nat) (x : AV) (v : Value), args[k]? = some x → vs[k]? = some v → VR w ι H (Al A0 B0 w ι H) x v) →
    Calls P f vs w fun e w' => ∃ v ι', e = .returned v ∧ Ev w ι H w' ι' H' ∧ HR w' ι' H' (Al A0 B0 w' ι' H') B0 ∧ VR w' ι' H' (Al A0 B0 w' ι' H') res v ∧ Below B0 w w'

def noMemC : AV → Bool
  | .int .. | .bool _ | .str _ | .undef | .lst [] => true
  | _ => false
def noMemE : AV → Bool
  | .agg cs => cs.all noMemC
  | x => noMemC x
def noMemCO : AV → Bool
  | .own _ xs => xs.all noMemE
  | x => noMemC x
def noMem1 : AV → Bool
  | .own _ xs => xs.all noMemE
  | .agg cs => cs.all noMemCO
  | x => noMemE x
/-- A result that leads to no memory but its own. -/
def noMem : AV → Bool
  | .tup rs => rs.all noMem1
  | r => noMem1 r
def isOwn : AV → Bool
  | .own .. => true
  | _ => false
def ownC : AV → Option (Nat × List AV)
  | .own sz xs => some (sz, xs)
  | _ => none
def resC (id g : Nat) : AV → AV
  | .own _ xs => .ref id g 0 xs.length
  | r => r
def resV1 (id g : Nat) : AV → AV
  | .own _ xs => .ref id g 0 xs.length
  | .agg cs => .agg (cs.map (resC id g))
  | r => r
def resV (id g : Nat) : AV → AV
  | .tup rs => .tup (rs.map (resV1 id g))
  | r => resV1 id g r
def ownB : AV → Option (Nat × List AV)
  | .own sz xs => some (sz, xs)
  | .agg cs => cs.findSome? ownC
  | _ => none
def hasOwn (r : AV) : Bool := (ownB r).isSome
def ownLe1 : AV → Bool
  | .agg cs => decide ((cs.filter isOwn).length ≤ 1)
  | _ => true
def ownOne : AV → Bool
  | .tup rs => decide ((rs.filter hasOwn).length ≤ 1) && rs.all ownLe1
  | r => ownLe1 r
def resB : AV → Option (Nat × List AV)
  | .tup rs => rs.findSome? ownB
  | r => ownB r
def freeze (fr : List Nat) (H : Heap) : Heap := fun id => if fr.contains id then (H id).map fun B => { B with own := false } else H id

section
variable {P : Program} {w w' : World} {ι : Plc} {H : Heap} {A0 A : Nat → Prop} {B0 : Nat}

theorem DR.noMemC {x : AV} {v : Value} {A' : Nat → Prop} (h : DR w A x v) (hx : Ab.noMemC x = true) : DR w' A' x v := by
  cases h with
  | int => exact .int _ _
  | bool => exact .bool _
  | str s l e => exact .str s l e
  | undef => exact .undef _
  | lst0 => exact .lst0 _ _
  | lst sz xs a len cap vals e1 e2 e3 e4 e5 =>
    cases xs with
    | nil => subst e1; exact .lst0 _ _
    | cons x xs => simp [Ab.noMemC] at hx
  | _ => simp [Ab.noMemC] at hx
theorem DR.noMemE {x : AV} {v : Value} {A' : Nat → Prop} (h : DR w A x v) (hx : Ab.noMemE x = true) : DR w' A' x v := by
  unfold Ab.noMemE at hx
  split at hx
  · rename_i cs
    cases h with
    | agg _ vs e h =>
      simp only [List.all_eq_true] at hx
      exact .agg cs vs e fun k c v h1 h2 => (h k c v h1 h2).noMemC (hx c (List.mem_of_getElem? h1))
  · exact h.noMemC hx
theorem noMemE_cells {x : AV} (h : noMemE x = true) : ∀ c ∈ x.cells, noMemC c = true := by
  unfold noMemE at h
  split at h
  · simpa [List.all_eq_true, AV.cells] using h
  · rename_i hno
    have hx : x.cells = [x] := by cases x <;> first | rfl | exact absurd rfl (hno _)
    rw [hx]; simpa using h

theorem frame_ok (hH : HR w ι H (Al A0 B0 w ι H) B0) (hb : Below w.heap.size w w') : Ev w ι H w' ι H ∧ HR w' ι H (Al A0 B0 w' ι H) B0 := by
  have hev : Ev w ι H w' ι H := ⟨hb.size, fun b h _ => hb.block b h, fun _ _ h => h, fun _ B h => ⟨B, h, Nat.le_refl _, fun _ => ⟨rfl, Nat.le_refl _, fun _ h => h, fun h => h⟩⟩⟩
  exact ⟨hev, fun id B L h1 h2 => (hH.blk id B L h1 h2).ev hev (hb.block _ (hH.blk id B L h1 h2).lt), hH.sep⟩

/-- A block that was handed over, at an id that has had no place yet. -/
theorem place_ok (hH : HR w ι H (Al A0 B0 w ι H) B0) (hb : Below w.heap.size w w') {id : Nat} {B : Blk} (hB : H id = some B) (hι : ι id = none) (hB0 : B0 ≤ w.heap.size) {blk base cap : Nat} (hblk : w.heap.size ≤ blk) {c : Array Value} {e : TypeId} {fr : Nat × Nat}
    (hrow : w'.heap[blk]? = some (.cells c e fr)) (hcap : base + cap * B.sz ≤ c.size) (hlen : B.els.length ≤ cap) (hfit : ∀ x ∈ B.els, x.fits B.sz = true)
    (hcells : ∀ (k : Nat) (x : AV), (flat B.els)[k]? = some x → ∃ v, c[base + k]? = some v ∧ DR w' (Al A0 B0 w' (upd ι id (some ⟨blk, base, cap⟩)) H) x v)
    (hfr : ∀ o, base ≤ o → o < base + cap * B.sz → w'.frozen? ⟨blk, o, none⟩ = false) :
    Ev w ι H w' (upd ι id (some ⟨blk, base, cap⟩)) H ∧ HR w' (upd ι id (some ⟨blk, base, cap⟩)) H (Al A0 B0 w' (upd ι id (some ⟨blk, base, cap⟩)) H) B0 := by
  have hev : Ev w ι H w' (upd ι id (some ⟨blk, base, cap⟩)) H := by
    refine ⟨hb.size, fun b hb' _ => hb.block b hb', fun b hb hn i C L h1 h2 h3 => ?_, fun i C hC => ⟨C, hC, Nat.le_refl _, fun _ => ⟨rfl, Nat.le_refl _, fun L hL => ?_, fun h => h⟩⟩⟩
    · simp only [upd] at h2
      split at h2
      · simp at h2; subst h2; simp; omega
      · exact hn i C L h1 h2 h3
    · simp only [upd]
      split
      · rename_i e; subst e; rw [hι] at hL; cases hL
      · exact hL
  refine ⟨hev, fun i C L h1 h2 => ?_, fun i j C D L M h1 h2 h3 h4 hij ho => ?_⟩
  · simp only [upd] at h2
    split at h2
    · rename_i e; subst e
      rw [hB] at h1; cases h1
      simp at h2; subst h2
      refine ⟨⟨c, _, _, hrow, hcap, fun k x hk => ?_⟩, by simp only; omega, hlen, hfit, fun _ => ⟨by simp only; omega, fun o h h' => hfr o h h'⟩⟩
      obtain ⟨v, h5, h6⟩ := hcells k x hk
      exact ⟨v, h5, .data _ _ h6⟩
    · have hb' := hH.blk i C L h1 h2
      exact hb'.ev hev (hb.block _ hb'.lt)
  · simp only [upd] at h2 h4
    split at h2 <;> split at h4
    · omega
    · simp at h2; subst h2
      have := (hH.blk j D M h3 h4).lt
      simp; omega
    · simp at h4; subst h4
      have := (hH.blk i C L h1 h2).lt
      simp; omega
    · exact hH.sep i j C D L M h1 h2 h3 h4 hij ho

theorem ownC_none {x : AV} {id g : Nat} (h : ownC x = none) : resC id g x = x := by cases x <;> first | rfl | (simp [ownC] at h)
theorem ownB_none {x : AV} {id g : Nat} (hx : ownB x = none) : resV1 id g x = x := by
  cases x with
  | own => simp [ownB] at hx
  | agg cs =>
    simp only [ownB, List.findSome?_eq_none_iff] at hx
    simp only [resV1]
    congr 1
    conv => rhs; rw [← List.map_id cs]
    exact List.map_congr_left fun x h => ownC_none (hx x h)
  | _ => rfl
theorem resB_none {r : AV} {id g : Nat} (h : resB r = none) : resV id g r = r := by
  have h1 : ∀ x, ownB x = none → resV1 id g x = x := fun x hx => ownB_none hx
  cases r with
  | tup rs =>
    simp only [resB, List.findSome?_eq_none_iff] at h
    simp only [resV]
    congr 1
    conv => rhs; rw [← List.map_id rs]
    exact List.map_congr_left fun x hx => h1 x (h x hx)
  | own sz xs => simp [resB, ownB] at h
  | agg cs => exact h1 (.agg cs) h
  | _ => rfl

theorem not_ownC {c : AV} (h : ownC c = none) {n0 : Nat} {ob : Option Nat} {v : Value} (hr : RCc w' n0 A ob c v) : DR w' (fun b => (A b ∨ n0 ≤ b) ∧ b < w'.heap.size ∧ ob ≠ some b) c v := by
  unfold RCc at hr
  split at hr
  · simp [ownC] at h
  · exact hr
theorem not_own {r : AV} (h : ownB r = none) {n0 : Nat} {ob : Option Nat} {v : Value} (hr : RC1 w' n0 A ob r v) : DR w' (fun b => (A b ∨ n0 ≤ b) ∧ b < w'.heap.size ∧ ob ≠ some b) r v := by
  unfold RC1 at hr
  split at hr
  · simp [ownB] at h
  · obtain ⟨vs, rfl, hl, hc⟩ := hr
    simp only [ownB, List.findSome?_eq_none_iff] at h
    exact .agg _ vs hl fun k c u h1 h2 => not_ownC (h c (List.mem_of_getElem? h1)) (hc k c u h1 h2)
  · exact hr
theorem RC1_of_DR {r : AV} {n0 : Nat} {ob : Option Nat} {v : Value} (h : DR w' (fun b => (A b ∨ n0 ≤ b) ∧ b < w'.heap.size ∧ ob ≠ some b) r v) : RC1 w' n0 A ob r v := by
  unfold RC1
  split
  · cases h
  · cases h with
    | agg _ vs e hc =>
      refine ⟨vs, rfl, e, fun k c u h1 h2 => ?_⟩
      have := hc k c u h1 h2
      unfold RCc
      split
      · cases this
      · exact this
  · exact h
theorem two_own {p : AV → Bool} : ∀ (l : List AV) (i j : Nat) (x y : AV), i < j → l[i]? = some x → l[j]? = some y → p x = true → p y = true → 2 ≤ (l.filter p).length := by
  intro l
  induction l with
  | nil => intro i j x y _ h; simp at h
  | cons z l ih =>
    intro i j x y hij hx hy h1 h2
    cases j with
    | zero => omega
    | succ j =>
      simp at hy
      cases i with
      | zero =>
        simp at hx; subst hx
        rw [List.filter_cons_of_pos h1]
        have : y ∈ l.filter p := List.mem_filter.2 ⟨List.mem_of_getElem? hy, h2⟩
        have := List.length_pos_of_mem this
        simp; omega
      | succ i =>
        simp at hx
        have := ih i j x y (by omega) hx hy h1 h2
        rw [List.filter_cons]; split
        · simp; omega
        · exact this
/-- The one part of a component that is handed over. -/
theorem own_leaf {r : AV} {n0 : Nat} {ob : Option Nat} {v : Value} {sz : Nat} {xs : List AV} (hr : RC1 w' n0 A ob r v) (h : ownB r = some (sz, xs)) (h1 : ownLe1 r = true) {q : Prop} (hm : q ∨ noMem1 r = true) :
    ∃ u, OwnV w' n0 A ob sz xs u ∧ (q ∨ ∀ x ∈ xs, noMemE x = true) ∧ ∀ (ι' : Plc) (A' : Nat → Prop) (id g : Nat), VR w' ι' H A' (.ref id g 0 xs.length) u →
      (∀ (x : AV) (u : Value), (q ∨ noMemE x = true) → DR w' (fun b => (A b ∨ n0 ≤ b) ∧ b < w'.heap.size ∧ ob ≠ some b) x u → DR w' A' x u) → VR w' ι' H A' (resV1 id g r) v := by
  unfold RC1 at hr
  split at hr
  · simp only [ownB, Option.some.injEq, Prod.mk.injEq] at h
    obtain ⟨rfl, rfl⟩ := h
    refine ⟨v, hr, ?_, fun ι' A' id g hv _ => hv⟩
    rcases hm with hm | hm
    · exact .inl hm
    · simp only [noMem1, List.all_eq_true] at hm; exact .inr hm
  · rename_i cs
    obtain ⟨vs, rfl, hl, hc⟩ := hr
    simp only [ownB] at h
    obtain ⟨c0, hc0, hc0'⟩ := List.exists_of_findSome?_eq_some h
    have hown : c0 = .own sz xs := by cases c0 <;> simp [ownC] at hc0'; obtain ⟨rfl, rfl⟩ := hc0'; rfl
    subst hown
    obtain ⟨k0, hk0⟩ := List.mem_iff_getElem?.1 hc0
    have hlt : k0 < vs.size := by have := (List.getElem?_eq_some_iff.1 hk0).1; omega
    have h0 := hc k0 _ vs[k0] hk0 (by simp [hlt])
    refine ⟨vs[k0], h0, ?_, fun ι' A' id g hv dd => ?_⟩
    · rcases hm with hm | hm
      · exact .inl hm
      · simp only [noMem1, List.all_eq_true] at hm
        have := hm _ hc0
        simp only [noMemCO, List.all_eq_true] at this
        exact .inr this
    · refine .agg _ vs (by simp [hl]) fun k c u q1 q2 => ?_
      simp only [List.getElem?_map, Option.map_eq_some_iff] at q1
      obtain ⟨c1, q1, rfl⟩ := q1
      by_cases hn : ownC c1 = none
      · rw [ownC_none hn]
        refine .data _ _ (dd c1 u ?_ (not_ownC hn (hc k c1 u q1 q2)))
        rcases hm with hm | hm
        · exact .inl hm
        · simp only [noMem1, List.all_eq_true] at hm
          have := hm c1 (List.mem_of_getElem? q1)
          refine .inr ?_
          cases c1 <;> first | exact this | (simp [ownC] at hn; done) | (simp [noMemCO, noMemC] at this; done)
      · have hr1 : isOwn c1 = true := by cases c1 <;> first | rfl | (simp [ownC] at hn)
        have hk : k = k0 := by
          by_cases hne : k = k0
          · exact hne
          · exfalso
            simp only [ownLe1, decide_eq_true_eq] at h1
            rcases Nat.lt_or_gt_of_ne hne with hlt | hlt
            · have := two_own cs k k0 c1 _ hlt q1 hk0 hr1 rfl; omega
            · have := two_own cs k0 k _ c1 hlt hk0 q1 rfl hr1; omega
        subst hk
        rw [hk0] at q1; cases q1
        have : u = vs[k] := by simp [hlt] at q2; exact q2.symm
        subst this
        exact hv
  · rename_i hno1 hno2
    cases r <;> first | (simp [ownB] at h; done) | exact absurd rfl (hno1 _ _) | exact absurd rfl (hno2 _)

/-- What a call of a function with a contract gives. -/
theorem res_ok (hH : HR w ι H (Al A0 B0 w ι H) B0) (hB0 : B0 ≤ w.heap.size) (hb : Below w.heap.size w w') {ro : Bool} {res : AV} {v : Value} (hr : RRes w' w.heap.size (Ar ro A0 B0 w ι H) res v) (hm : ro = true ∨ noMem res = true) (ho : ownOne res = true)
    {id : Nat} (hid : ∀ sz xs, resB res = some (sz, xs) → ∃ B, H id = some B ∧ B.sz = sz ∧ B.els = xs ∧ ι id = none) :
    ∃ ι', Ev w ι H w' ι' H ∧ HR w' ι' H (Al A0 B0 w' ι' H) B0 ∧ (∀ g, (∀ B, H id = some B → B.gen = g) → VR w' ι' H (Al A0 B0 w' ι' H) (resV id g res) v) ∧ (∀ j, j ≠ id → ι' j = ι j) ∧ (resB res = none → ι' = ι) := by
  -- data of the result, in what is allowed behind the call
  have data : ∀ (ι' : Plc) (ob : Option Nat), (∀ i, i ≠ id → ι' i = ι i) → (∀ B L, H id = some B → ι' id = some L → ι id = some L ∨ ob = some L.blk) → ∀ (x : AV) (u : Value), (ro = true ∨ noMemE x = true) →
      DR w' (fun b => (Ar ro A0 B0 w ι H b ∨ w.heap.size ≤ b) ∧ b < w'.heap.size ∧ ob ≠ some b) x u → DR w' (Al A0 B0 w' ι' H) x u := by
    intro ι' ob h1 h2 x u hx hd
    rcases hx with hx | hx
    · refine hd.mono fun b hb' => ⟨?_, rfl⟩
      obtain ⟨h3, h4, h5⟩ := hb'
      refine ⟨?_, h4, fun i C L e1 e2 e3 => ?_⟩
      · rcases h3 with h3 | h3
        · exact h3.1
        · exact .inr (Nat.le_trans hB0 h3)
      · intro e
        have key : ∀ L, ι i = some L → b ≠ L.blk := by
          intro L hL
          rcases h3 with h3 | h3
          · exact h3.2.2 hx i C L e1 hL e3
          · have := (hH.blk i C L e1 hL).lt; omega
        by_cases hi : i = id
        · subst hi
          rcases h2 C L e1 e2 with h | h
          · exact key L h e
          · exact h5 (by rw [h, e])
        · rw [h1 i hi] at e2
          exact key L e2 e
    · exact hd.noMemE hx
  have memE : ∀ x, ownB x = none → noMem1 x = true → noMemE x = true := by
    intro x hx h
    cases x with
    | own => simp [ownB] at hx
    | agg cs =>
      simp only [ownB, List.findSome?_eq_none_iff] at hx
      simp only [noMem1, List.all_eq_true] at h
      simp only [noMemE, List.all_eq_true]
      intro c hc
      have h2 := h c hc
      have h3 := hx c hc
      cases c <;> first | exact h2 | (simp [ownC] at h3)
    | _ => exact h
  cases hres : resB res with
  | none =>
    obtain ⟨e1, e2⟩ := frame_ok (w' := w') hH hb
    refine ⟨ι, e1, e2, fun g _ => ?_, fun _ _ => rfl, fun _ => rfl⟩
    rw [resB_none hres]
    obtain ⟨ob, hr⟩ := hr
    have dd := data ι ob (fun _ _ => rfl) (fun _ _ _ h => .inl h)
    split at hr
    · rename_i rs
      obtain ⟨vs, rfl, hl, hr⟩ := hr
      simp only [resB, List.findSome?_eq_none_iff] at hres
      refine .tup rs vs hl fun k r u h1 h2 => .data _ _ (dd r u ?_ (not_own (hres r (List.mem_of_getElem? h1)) (hr k r u h1 h2)))
      rcases hm with hm | hm
      · exact .inl hm
      · simp only [noMem, List.all_eq_true] at hm
        exact .inr (memE r (hres r (List.mem_of_getElem? h1)) (hm r (List.mem_of_getElem? h1)))
    · rename_i hno
      have hn : ownB res = none := by
        cases res <;> first | exact hres | exact absurd rfl (hno _)
      refine .data _ _ (dd res v ?_ (not_own hn hr))
      rcases hm with hm | hm
      · exact .inl hm
      · refine .inr (memE res hn ?_)
        cases res <;> first | exact hm | exact absurd rfl (hno _)
  | some p =>
    obtain ⟨sz, xs⟩ := p
    obtain ⟨B, hB, rfl, rfl, hι⟩ := hid sz xs hres
    obtain ⟨ob, hr⟩ := hr
    -- the component that is handed over
    have main : ∀ u, OwnV w' w.heap.size (Ar ro A0 B0 w ι H) ob B.sz B.els u → (ro = true ∨ ∀ x ∈ B.els, noMemE x = true) →
        ∃ ι', Ev w ι H w' ι' H ∧ HR w' ι' H (Al A0 B0 w' ι' H) B0 ∧ VR w' ι' H (Al A0 B0 w' ι' H) (.ref id B.gen 0 B.els.length) u ∧ (∀ j, j ≠ id → ι' j = ι j) ∧ (∀ C L, H id = some C → ι' id = some L → ι id = some L ∨ ob = some L.blk) := by
      intro u hu hx
      rcases hu with ⟨he, base, rfl⟩ | ⟨blk, base, o, cap, c, e, fr, h1, h2, rfl, h4, h5, h6, h7, h8, h9, h10⟩
      · obtain ⟨e1, e2⟩ := frame_ok (w' := w') hH hb
        refine ⟨ι, e1, e2, ?_, fun _ _ => rfl, fun _ _ _ h => .inl h⟩
        rw [he]
        exact .refNil id B.gen B base hB rfl he
      · have dd := data (upd ι id (some ⟨blk, base, cap⟩)) ob (fun i hi => upd_ne _ _ _ _ hi) (fun _ L _ hL => by rw [upd_same] at hL; cases hL; exact .inr h1)
        obtain ⟨e1, e2⟩ := place_ok hH hb hB hι hB0 h2 h5 h6 h7 h8 (fun k x hk => by
          obtain ⟨v, q1, q2⟩ := h10 k x hk
          rcases hx with hx | hx
          · exact ⟨v, q1, dd x v (.inl hx) q2⟩
          · refine ⟨v, q1, dd x v (.inr ?_) q2⟩
            have hm := List.mem_of_getElem? hk
            simp only [flat, List.mem_flatMap] at hm
            obtain ⟨y, hy, hyx⟩ := hm
            have hc := noMemE_cells (hx y hy) x hyx
            cases x <;> first | exact hc | (simp [noMemC] at hc)) h9
        refine ⟨_, e1, e2, ?_, fun j hj => upd_ne _ _ _ _ hj, fun _ L _ hL => by rw [upd_same] at hL; cases hL; exact .inr h1⟩
        exact .ref id B.gen 0 B.els.length o cap B ⟨blk, base, cap⟩ hB rfl (upd_same _ _ _) (by simp) (by simp) h7 (by simpa using h4)
    split at hr
    · rename_i rs
      obtain ⟨vs, rfl, hl, hr⟩ := hr
      simp only [resB] at hres
      obtain ⟨r0, hr0, hr0'⟩ := List.exists_of_findSome?_eq_some hres
      obtain ⟨k0, hk0⟩ := List.mem_iff_getElem?.1 hr0
      have hlt : k0 < vs.size := by have := (List.getElem?_eq_some_iff.1 hk0).1; omega
      have h0 := hr k0 _ vs[k0] hk0 (by simp [hlt])
      simp only [ownOne, Bool.and_eq_true, decide_eq_true_eq, List.all_eq_true] at ho
      obtain ⟨u0, hu0, hm0, hfin⟩ := own_leaf (H := H) h0 hr0' (ho.2 r0 hr0) (q := ro = true) (by
        rcases hm with hm | hm
        · exact .inl hm
        · simp only [noMem, List.all_eq_true] at hm
          exact .inr (hm _ hr0))
      obtain ⟨ι', e1, e2, e3, e4, e5⟩ := main u0 hu0 hm0
      refine ⟨ι', e1, e2, fun g hg => ?_, e4, fun h => by simp at h⟩
      have hgB := hg B hB
      subst hgB
      have dd := data ι' ob e4 e5
      refine .tup _ vs (by simp [hl]) fun k r u h1 h2 => ?_
      simp only [List.getElem?_map, Option.map_eq_some_iff] at h1
      obtain ⟨r1, h1, rfl⟩ := h1
      by_cases hn : ownB r1 = none
      · rw [ownB_none hn]
        refine .data _ _ (dd r1 u ?_ (not_own hn (hr k r1 u h1 h2)))
        rcases hm with hm | hm
        · exact .inl hm
        · simp only [noMem, List.all_eq_true] at hm
          exact .inr (memE r1 hn (hm r1 (List.mem_of_getElem? h1)))
      · -- the only one
        have hr1 : hasOwn r1 = true := by unfold hasOwn; cases h : ownB r1 <;> simp_all
        have hr0o : hasOwn r0 = true := by unfold hasOwn; rw [hr0']; rfl
        have hk : k = k0 := by
          by_cases hne : k = k0
          · exact hne
          · exfalso
            rcases Nat.lt_or_gt_of_ne hne with hlt | hlt
            · have := two_own rs k k0 r1 _ hlt h1 hk0 hr1 hr0o; omega
            · have := two_own rs k0 k _ r1 hlt hk0 h1 hr0o hr1; omega
        subst hk
        rw [hk0] at h1; cases h1
        have : u = vs[k] := by simp [hlt] at h2; exact h2.symm
        subst this
        exact hfin ι' _ id B.gen e3 dd
    · rename_i hno
      have hres' : ownB res = some (B.sz, B.els) := by
        cases res <;> first
          | exact absurd rfl (hno _)
          | exact hres
      have ho' : ownLe1 res = true := by
        cases res <;> first
          | exact absurd rfl (hno _)
          | exact ho
      obtain ⟨u0, hu0, hm0, hfin⟩ := own_leaf (H := H) hr hres' ho' (q := ro = true) (by
        rcases hm with hm | hm
        · exact .inl hm
        · refine .inr ?_
          cases res <;> first
            | exact absurd rfl (hno _)
            | exact hm)
      obtain ⟨ι', e1, e2, e3, e4, e5⟩ := main u0 hu0 hm0
      refine ⟨ι', e1, e2, fun g hg => ?_, e4, fun h => by simp at h⟩
      have hgB := hg B hB
      subst hgB
      have hv : resV id B.gen res = resV1 id B.gen res := by
        cases res <;> first
          | exact absurd rfl (hno _)
          | rfl
      rw [hv]
      exact hfin ι' _ id B.gen e3 (data ι' ob e4 e5)
end
end Go.Ab

/- One step of a region; a region in the order of the text. -/
namespace Go.Ab
open Go.RowKit

structure St where
  τ : Nat → AV
  H : Heap
  nx : Nat

def put (τ : Nat → AV) (dst : Option Tmp) (v : AV) : Nat → AV :=
  match dst with
  | some d => upd τ d v
  | none => τ
def St.set (s : St) (dst : Option Tmp) (v : AV) : St := { s with τ := put s.τ dst v }
def St.out (s : St) (slot g : Nat) (dst : Option Tmp) : Out → St
  | .val v => s.set dst v
  | .new b mv => { s with τ := put s.τ dst (mv slot g), H := upd s.H slot (some { b with gen := g }) }
  | .wr v id b => { s with τ := put s.τ dst v, H := upd s.H id (some b) }
def St.res (s : St) (slot g : Nat) (dst : Option Tmp) (H' : Heap) (r : AV) : St :=
  match resB r with
  | some p => { s with τ := put s.τ dst (resV slot g r), H := upd H' slot (some ⟨p.1, p.2, g, true⟩) }
  | none => { s with τ := put s.τ dst r, H := H' }

def wantedA (ops : Array Oper) (τ : Nat → AV) (o : Oper) : Option Bool :=
  match o.guard with
  | none => some true
  | some (j, want) => match (ops[j]?).bind (·.dst) with
    | some d => match τ d with
      | .bool b => some (b == want)
      | .tup [] => some false
      | _ => none
    | none => some false

/-- The Go function that an operation calls, and what it has captured. -/
def callee (o : Op) (τ : Nat → AV) : Option (FuncId × List AV) :=
  match o with
  | .call c => match c.callee with
    | .value x => match opnd τ x with
      | .func f caps => some (f, (c.args.toList.map (opnd τ)) ++ caps)
      | _ => none
    | _ => none
  | _ => none

def CallD (P : Program) (H : Heap) (f : FuncId) (args : List AV) (H' : Heap) (res : AV) : Prop :=
  ∃ (fr : List Nat) (ro : Bool) (ds : List AV), H' = freeze fr H ∧ args.mapM (dval ro H') = some ds ∧ AC P f ds res ∧ (ro = true ∨ noMem res = true) ∧ ownOne res = true

def genAt (G : Option (Nat → Nat)) (H : Heap) (slot : Nat) : Nat :=
  match G with
  | none => ngen H slot
  | some f => f slot

/-- One operation: a step from s to s'. G is none in a region that keeps the text's order. -/
def AStep (P : Program) (nt : Nat) (G : Option (Nat → Nat)) (ops : Array Oper) (slot : Nat) (o : Oper) (s s' : St) : Prop :=
  (o.dst.all (· < nt)) = true ∧
  ((wantedA ops s.τ o = some false ∧ s' = s.set o.dst (.tup [])) ∨
   (wantedA ops s.τ o = some true ∧
     ((callee o.op s.τ = none ∧ ∃ out, aop P o.op (opnd s.τ) s.H = some out ∧ s' = s.out slot (genAt G s.H slot) o.dst out) ∨
      (∃ f args H' r, callee o.op s.τ = some (f, args) ∧ CallD P s.H f args H' r ∧ s' = s.res slot (genAt G s.H slot) o.dst H' r) ∨
      (G = none ∧ ∃ f args H' r, callee o.op s.τ = some (f, args) ∧ AW P f args s.H r H' ∧ s' = { s with τ := put s.τ o.dst r, H := H' }))))

def awpOps (P : Program) (nt : Nat) (G : Option (Nat → Nat)) (ops : Array Oper) (base : Nat) (K : St → Prop) : Nat → List Oper → St → Prop
  | _, [], s => K s
  | i, o :: os, s => ∃ s', AStep P nt G ops (base + i) o s s' ∧ awpOps P nt G ops base K (i + 1) os s'

/-- Where a function began. -/
structure Start where
  w : World
  ι : Plc
  H : Heap

/-- An abstract state tells what a frame and a world hold. -/
structure Rel (A0 : Nat → Prop) (B0 : Nat) (w0 : Start) (nt : Nat) (s : St) (ι : Plc) (a : Act) (w : World) : Prop where
  tm : ∀ t, VR w ι s.H (Al A0 B0 w ι s.H) (s.τ t) (a.tmps.getD t undef)
  sz : a.tmps.size = nt
  hr : HR w ι s.H (Al A0 B0 w ι s.H) B0
  df : a.defers = []
  bl : Below B0 w0.w w
  le : B0 ≤ w0.w.heap.size
  ev : Ev w0.w w0.ι w0.H w ι s.H

section
variable {P : Program} {A0 : Nat → Prop} {B0 nt : Nat} {w0 : Start} {w w' : World} {s s' : St} {ι ι' : Plc} {a : Act}

theorem Rel.leW (h : Rel A0 B0 w0 nt s ι a w) : B0 ≤ w.heap.size := Nat.le_trans h.le h.bl.size

theorem Rel.op (h : Rel A0 B0 w0 nt s ι a w) (x : Operand) : VR w ι s.H (Al A0 B0 w ι s.H) (opnd s.τ x) (a.eval x) := by
  cases x with
  | tmp t => exact h.tm t
  | const v => exact .data _ _ (DR.const v)
  | global g => exact .data _ _ (.undef _)
  | func f => exact .data _ _ (.func f [] #[] rfl (by simp))

theorem getD_set (tmps : Array Value) (d t : Nat) (u : Value) (hd : d < tmps.size) : (tmps.setIfInBounds d u).getD t undef = if t = d then u else tmps.getD t undef := by
  simp only [Array.getD_eq_getD_getElem?]
  by_cases h : t = d
  · subst h; rw [if_pos rfl, Array.getElem?_setIfInBounds_self_of_lt hd]; rfl
  · rw [if_neg h, Array.getElem?_setIfInBounds_ne (Ne.symm h)]

/-- Behind an operation: its value is put down, the world has gone on. -/
theorem Rel.put (h : Rel A0 B0 w0 nt s ι a w) {H' : Heap} {dst : Option Tmp} {x : AV} {u : Value} (hd : (dst.all (· < nt)) = true) (hev : Ev w ι s.H w' ι' H') (hr : HR w' ι' H' (Al A0 B0 w' ι' H') B0)
    (hx : VR w' ι' H' (Al A0 B0 w' ι' H') x u) (hb : Below B0 w w') : Rel A0 B0 w0 nt { s with τ := put s.τ dst x, H := H' } ι' (a.put dst u) w' := by
  refine ⟨fun t => ?_, ?_, hr, ?_, h.bl.trans hb, h.le, h.ev.trans hev⟩
  · cases dst with
    | none => exact (h.tm t).ev hev
    | some d =>
      simp at hd
      have hs := h.sz
      simp only [Ab.put, Act.put, upd]
      rw [getD_set _ _ _ _ (by omega)]
      split
      · exact hx
      · exact (h.tm t).ev hev
  · cases dst <;> simp [Act.put, h.sz]
  · cases dst <;> simp [Act.put, h.df]

theorem wanted_sound (h : ∀ t, VR w ι s.H (Al A0 B0 w ι s.H) (s.τ t) (a.tmps.getD t undef)) {ops : Array Oper} {o : Oper} {b : Bool} (hw : wantedA ops s.τ o = some b) : Region.wanted o (yielded ops a.tmps) = b := by
  unfold wantedA at hw
  unfold Region.wanted
  split at hw
  · rename_i hg; simp at hw; subst hw; rw [hg]
  · rename_i j want hg
    rw [hg]
    simp only
    unfold yielded
    split at hw
    · rename_i d hd
      rw [hd]
      simp only [Option.bind_some]
      have ht := h d
      split at hw
      · rename_i b' hb
        simp at hw; subst hw
        rw [hb] at ht
        have he := ht.of_bool
        have : a.tmps[d]? = some (.bool b') := by
          rw [Array.getD_eq_getD_getElem?] at he
          cases hx : a.tmps[d]? with
          | none => rw [hx] at he; simp [undef] at he
          | some v => rw [hx] at he; simp at he; rw [he]
        rw [this]
        cases b' <;> cases want <;> rfl
      · rename_i hb
        simp at hw; subst hw
        rw [hb] at ht
        obtain ⟨vs, he, hl, _⟩ := ht.of_tup
        have : ∀ b, a.tmps[d]? ≠ some (.bool b) := by
          intro b hx
          rw [Array.getD_eq_getD_getElem?, hx] at he
          simp at he
        split
        · rename_i b hx; exact absurd hx (this b)
        · rfl
      · simp at hw
    · rename_i hd
      simp at hw; subst hw
      rw [hd]
      rfl

theorem callee_sound (h : Rel A0 B0 w0 nt s ι a w) {o : Oper} {f : FuncId} {args : List AV} (hc : callee o.op s.τ = some (f, args)) (hcf : ∀ vs w, (callFunc f vs).run P w = .ok (.enter f vs) w) :
    ∃ vs : Array Value, (execOp a.eval o).run P w = .ok (.enter f vs) w ∧ args.length = vs.size ∧ ∀ (k : Nat) (x : AV) (v : Value), args[k]? = some x → vs[k]? = some v → VR w ι s.H (Al A0 B0 w ι s.H) x v := by
  unfold callee at hc
  split at hc
  · rename_i c ho
    split at hc
    · rename_i x hx
      split at hc
      · rename_i g caps hg
        simp only [Option.some.injEq, Prod.mk.injEq] at hc
        obtain ⟨rfl, rfl⟩ := hc
        have hv := h.op x
        rw [hg] at hv
        obtain ⟨vs, e, hl, hvs⟩ := hv.of_func
        refine ⟨c.args.map a.eval ++ vs, ?_, by simp [hl], fun k y v hk hv => ?_⟩
        · simp [execOp, ho, resolve, hx, Deferred.ofValue, e, invoke, hcf]
        · by_cases hlt : k < c.args.size
          · rw [List.getElem?_append_left (by simpa using hlt)] at hk
            rw [Array.getElem?_append_left (by simpa using hlt)] at hv
            simp only [List.getElem?_map, Array.getElem?_toList, Array.getElem?_map, Option.map_eq_some_iff] at hk hv
            obtain ⟨p, h5, rfl⟩ := hk
            obtain ⟨q, h6, rfl⟩ := hv
            rw [h5] at h6; cases h6
            exact h.op p
          · rw [List.getElem?_append_right (by simp; omega)] at hk
            rw [Array.getElem?_append_right (by simp; omega)] at hv
            simp at hk hv
            exact hvs _ y v hk hv
      · simp at hc
    · simp at hc
  · simp at hc

theorem freeze_ok (hH : HR w ι s.H (Al A0 B0 w ι s.H) B0) (fr : List Nat) : Ev w ι s.H w ι (freeze fr s.H) ∧ HR w ι (freeze fr s.H) (Al A0 B0 w ι (freeze fr s.H)) B0 := by
  have back : ∀ id B, freeze fr s.H id = some B → ∃ C, s.H id = some C ∧ B.sz = C.sz ∧ B.els = C.els ∧ B.gen = C.gen ∧ (B.own = true → C.own = true) := by
    intro id B h
    simp only [freeze] at h
    split at h
    · rw [Option.map_eq_some_iff] at h
      obtain ⟨C, hC, rfl⟩ := h
      exact ⟨C, hC, rfl, rfl, rfl, by simp⟩
    · exact ⟨B, h, rfl, rfl, rfl, fun h => h⟩
  have hev : Ev w ι s.H w ι (freeze fr s.H) := by
    refine ⟨Nat.le_refl _, fun _ _ _ => rfl, fun b hb hn id B L h1 h2 h3 => ?_, fun id B hB => ?_⟩
    · obtain ⟨C, hC, _, _, _, ho⟩ := back id B h1
      exact hn id C L hC h2 (ho h3)
    · by_cases hm : fr.contains id = true
      · refine ⟨{ B with own := false }, by simp only [freeze, hm, if_true, hB, Option.map_some], Nat.le_refl _, fun _ => ⟨rfl, Nat.le_refl _, fun _ h => h, fun h => h⟩⟩
      · exact ⟨B, by simp only [freeze]; rw [if_neg hm]; exact hB, Nat.le_refl _, fun _ => ⟨rfl, Nat.le_refl _, fun _ h => h, fun h => h⟩⟩
  refine ⟨hev, fun id B L h1 h2 => ?_, fun i j B C L M h1 h2 h3 h4 hij ho => ?_⟩
  · obtain ⟨C, hC, e1, e2, e3, e4⟩ := back id B h1
    have hb := (hH.blk id C L hC h2).ev hev rfl
    obtain ⟨c, t, fr', q1, q2, q3⟩ := hb.row
    exact ⟨⟨c, t, fr', q1, by rw [e1]; exact q2, by rw [e2]; exact q3⟩, hb.low, by rw [e2]; exact hb.len, by rw [e1, e2]; exact hb.fit, fun h => by rw [e1]; exact hb.free (e4 h)⟩
  · obtain ⟨B', hB', _, _, _, o1⟩ := back i B h1
    obtain ⟨C', hC', _⟩ := back j C h3
    exact hH.sep i j B' C' L M hB' h2 hC' h4 hij (o1 ho)

theorem args_sound {H' : Heap} {args ds : List AV} {vs : Array Value} (hl : args.length = vs.size) (hv : ∀ (k : Nat) (x : AV) (v : Value), args[k]? = some x → vs[k]? = some v → VR w ι H' (Al A0 B0 w ι H') x v)
    (hH' : HR w ι H' (Al A0 B0 w ι H') B0) {ro : Bool} (hd : args.mapM (dval ro H') = some ds) : ds.length = vs.size ∧ ∀ (k : Nat) (x : AV) (v : Value), ds[k]? = some x → vs[k]? = some v → DR w (Ar ro A0 B0 w ι H') x v := by
  obtain ⟨h1, h2⟩ := mapM_get hd
  refine ⟨by omega, fun k x v hk hv' => ?_⟩
  obtain ⟨y, h3, h4⟩ := h2 k x hk
  exact dval_sound hH' (hv k y v h3 hv') h4

/-- One step, in the order of the text. -/
theorem step_sound (h : Rel A0 B0 w0 nt s ι a w) {ops : Array Oper} {slot : Nat} {o : Oper} (hs : AStep P nt none ops slot o s s') {K : Act → World → Prop} {Q : Exit → Act → World → Prop}
    (hK : ∀ ι' a' w', Rel A0 B0 w0 nt s' ι' a' w' → K a' w') : if Region.wanted o (yielded ops a.tmps) then o.wp P a w K Q else K (a.put o.dst undef) w := by
  obtain ⟨hd, hs⟩ := hs
  rcases hs with ⟨hw, rfl⟩ | ⟨hw, hs⟩
  · rw [wanted_sound h.tm hw]
    exact hK ι _ _ (h.put (H' := s.H) hd (Ev.refl _ _ _) h.hr (.data _ _ (.tup [] #[] rfl (by simp))) (Below.refl _ _))
  · rw [wanted_sound h.tm hw]
    simp only [if_true]
    unfold Oper.wp
    rcases hs with ⟨_, out, hop, rfl⟩ | ⟨f, args, H', r, hc, hcd, rfl⟩ | ⟨_, f, args, H', r, hc, haw, rfl⟩
    · cases out with
      | val v =>
        obtain ⟨u, h1, h2⟩ := aop_val (P := P) h.hr h.op o hop
        rw [h1]
        exact hK ι _ _ (h.put (H' := s.H) hd (Ev.refl _ _ _) h.hr h2 (Below.refl _ _))
      | new b mv =>
        obtain ⟨u, w', h1, h2⟩ := aop_new (P := P) h.hr h.op o hop
        rw [h1]
        obtain ⟨ι', e1, e2, e3, e4, _⟩ := new_seq h.hr h.leW h2 (id := slot) (B' := { b with gen := ngen s.H slot }) rfl rfl ngen_lt
        exact hK ι' _ _ (h.put hd e1 e2 e3 (e4.mono h.leW))
      | wr v id b =>
        obtain ⟨nx, u, w', h1, h2, ι', e1, e2, e3, e4, _⟩ := aop_wr (P := P) h.hr h.leW h.op o hop
        rw [h1]
        rcases h2 with rfl | ⟨rfl, rfl⟩
        · exact hK ι' _ _ (h.put hd e1 e2 e3 e4)
        · exact hK ι' _ _ (h.put hd e1 e2 e3 e4)
    · obtain ⟨fr, ro, ds, rfl, hds, hac, hm, ho⟩ := hcd
      obtain ⟨hcf, hac⟩ := hac
      obtain ⟨vs, h1, hl, hvs⟩ := callee_sound h hc hcf
      rw [h1]
      obtain ⟨f1, f2⟩ := freeze_ok h.hr fr
      obtain ⟨hl', hdr⟩ := args_sound hl (fun k x v hk hv => (hvs k x v hk hv).ev f1) f2 hds
      have := hac w (Ar ro A0 B0 w ι (freeze fr s.H)) vs (fun b hb => hb.2.1) hl' hdr
      refine this.mono ?_
      rintro e w' ⟨v, rfl, hb, hr⟩
      simp only
      cases hres : resB r with
      | none =>
        obtain ⟨ι', e1, e2, e3, e4, e5⟩ := res_ok (id := slot) f2 h.leW hb hr hm ho (by simp [hres])
        have e6 := e5 hres
        subst e6
        have e3' := e3 (ngen (freeze fr s.H) slot - 1) (fun B hB => by simp [ngen, hB])
        rw [resB_none hres] at e3'
        refine hK ι' _ _ ?_
        unfold St.res
        rw [hres]
        exact h.put hd (f1.trans e1) e2 e3' (hb.mono h.leW)
      | some p =>
        obtain ⟨k1, k2⟩ := kill_ok f2 (id := slot) (B' := ⟨p.1, p.2, ngen s.H slot, true⟩) (by
          intro B hB
          have : ∃ C, s.H slot = some C ∧ C.gen = B.gen := by
            simp only [freeze] at hB
            split at hB
            · rw [Option.map_eq_some_iff] at hB; obtain ⟨C, hC, rfl⟩ := hB; exact ⟨C, hC, rfl⟩
            · exact ⟨B, hB, rfl⟩
          obtain ⟨C, hC, hg⟩ := this
          rw [← hg]
          exact ngen_lt C hC)
        have hr' : RRes w' w.heap.size (Ar ro A0 B0 w (upd ι slot none) (upd (freeze fr s.H) slot (some ⟨p.1, p.2, ngen s.H slot, true⟩))) r v := by
          have sub : ∀ b, Ar ro A0 B0 w ι (freeze fr s.H) b → Ar ro A0 B0 w (upd ι slot none) (upd (freeze fr s.H) slot (some ⟨p.1, p.2, ngen s.H slot, true⟩)) b := fun b hb => ⟨hb.1, hb.2.1, fun h => k1.own b hb.2.1 (hb.2.2 h)⟩
          have own : ∀ {ob sz xs u}, OwnV w' w.heap.size (Ar ro A0 B0 w ι (freeze fr s.H)) ob sz xs u → OwnV w' w.heap.size (Ar ro A0 B0 w (upd ι slot none) (upd (freeze fr s.H) slot (some ⟨p.1, p.2, ngen s.H slot, true⟩))) ob sz xs u := by
            intro ob sz xs u h
            rcases h with h | ⟨blk, base, o, cap, c, e, fr, g1, g2, g3, g4, g5, g6, g7, g8, g9, g10⟩
            · exact .inl h
            · refine .inr ⟨blk, base, o, cap, c, e, fr, g1, g2, g3, g4, g5, g6, g7, g8, g9, fun k x hk => ?_⟩
              obtain ⟨u, q1, q2⟩ := g10 k x hk
              exact ⟨u, q1, q2.mono fun b hb => ⟨⟨hb.1.imp (sub b) id, hb.2⟩, rfl⟩⟩
          have one : ∀ {ob x u}, RC1 w' w.heap.size (Ar ro A0 B0 w ι (freeze fr s.H)) ob x u → RC1 w' w.heap.size (Ar ro A0 B0 w (upd ι slot none) (upd (freeze fr s.H) slot (some ⟨p.1, p.2, ngen s.H slot, true⟩))) ob x u := by
            intro ob x u h
            unfold RC1 at h ⊢
            split at h
            · exact own h
            · obtain ⟨vs, rfl, hl, hc⟩ := h
              refine ⟨vs, rfl, hl, fun k c u h1 h2 => ?_⟩
              have h3 := hc k c u h1 h2
              unfold RCc at h3 ⊢
              split at h3
              · exact own h3
              · exact h3.mono fun b hb => ⟨⟨hb.1.imp (sub b) id, hb.2⟩, rfl⟩
            · exact h.mono fun b hb => ⟨⟨hb.1.imp (sub b) id, hb.2⟩, rfl⟩
          obtain ⟨ob, hr⟩ := hr
          refine ⟨ob, ?_⟩
          split at hr
          · obtain ⟨vs, q1, q2, q3⟩ := hr
            exact ⟨vs, q1, q2, fun k r u h1 h2 => one (q3 k r u h1 h2)⟩
          · exact one hr
        obtain ⟨ι', e1, e2, e3, e4, e5⟩ := res_ok (id := slot) k2 h.leW hb hr' hm ho (by
          intro sz xs hx
          rw [hres] at hx; cases hx
          exact ⟨_, upd_same _ _ _, rfl, rfl, upd_same _ _ _⟩)
        have e3' := e3 (ngen s.H slot) (fun B hB => by rw [upd_same] at hB; cases hB; rfl)
        refine hK ι' _ _ ?_
        unfold St.res
        rw [hres]
        exact h.put hd ((f1.trans k1).trans e1) e2 e3' (hb.mono h.leW)
    · obtain ⟨hcf, haw⟩ := haw
      obtain ⟨vs, h1, hl, hvs⟩ := callee_sound h hc hcf
      rw [h1]
      refine (haw w ι A0 B0 vs h.leW h.hr hl hvs).mono ?_
      rintro e w' ⟨v, ι', rfl, e1, e2, e3, e4⟩
      exact hK _ _ _ (h.put hd e1 e2 e3 e4)

/-- A region that keeps the text's order. -/
theorem ops_sound {ops : Array Oper} {base : Nat} {K : St → Prop} {Q : Exit → Act → World → Prop} (hK : ∀ s ι a w, K s → Rel A0 B0 w0 nt s ι a w → Q .normal a w) :
    ∀ (n i : Nat) (s : St) (ι : Plc) (a : Act) (w : World), i + n = ops.size → awpOps P nt none ops base K i (ops.toList.drop i) s → Rel A0 B0 w0 nt s ι a w → wpOps P ops Q (List.range' i n) a w := by
  intro n
  induction n with
  | zero =>
    intro i s ι a w hi h hr
    rw [List.drop_of_length_le (by simp; omega)] at h
    exact hK s ι a w h hr
  | succ n ih =>
    intro i s ι a w hi h hr
    have hlt : i < ops.toList.length := by simp; omega
    rw [List.drop_eq_getElem_cons hlt] at h
    obtain ⟨s', h1, h2⟩ := h
    simp only [List.range'_succ, wpOps]
    have ho : ops[i]? = some ops.toList[i] := by simp at hlt; simp [hlt]
    rw [ho]
    simp only
    have := step_sound hr h1 (K := wpOps P ops Q (List.range' (i + 1) n)) (Q := Q) (fun ι' a' w' hr' => ih (i + 1) s' ι' a' w' (by omega) h2 hr')
    split at this
    · rename_i hw; rw [if_pos hw]; exact .inl this
    · rename_i hw; rw [if_neg hw]; exact this
end
end Go.Ab

/- An operation that turns no block gives the same over a heap that has more blocks; an operation looks at its operands alone. -/
namespace Go.Ab
open Go.RowKit

structure Same (B C : Blk) : Prop where
  sz : C.sz = B.sz
  els : C.els = B.els
  gen : C.gen = B.gen
  own : C.own = true → B.own = true
theorem Same.refl (B : Blk) : Same B B := ⟨rfl, rfl, rfl, fun h => h⟩
theorem Same.trans {B C D : Blk} (h : Same B C) (k : Same C D) : Same B D := ⟨k.sz.trans h.sz, k.els.trans h.els, k.gen.trans h.gen, fun e => h.own (k.own e)⟩
def Hle (H H2 : Heap) : Prop := ∀ id B, H id = some B → ∃ C, H2 id = some C ∧ Same B C
theorem Hle.refl (H : Heap) : Hle H H := fun _ B h => ⟨B, h, Same.refl B⟩
theorem Hle.trans {H1 H2 H3 : Heap} (h : Hle H1 H2) (k : Hle H2 H3) : Hle H1 H3 := fun id B hB => by
  obtain ⟨C, hC, e⟩ := h id B hB
  obtain ⟨D, hD, f⟩ := k id C hC
  exact ⟨D, hD, e.trans f⟩

def isWr : Op → Bool
  | .store .. => true
  | .call { callee := .builtin .append, .. } | .call { callee := .builtin .copy, .. } => true
  | _ => false
def isPure : Op → Bool
  | .move _ | .assign _ | .pick .. | .build .. | .field .. | .unOp .. | .binOp .. | .index .. | .extract .. | .makeFunc .. => true
  | _ => false

section
variable {P : Program} {H H2 : Heap} {ρ ρ' : Operand → AV}

theorem refEls_mono (h : Hle H H2) {id g off len : Nat} {r : Nat × List AV} (hr : refEls H id g off len = some r) : refEls H2 id g off len = some r := by
  unfold refEls at hr ⊢
  split at hr
  · rename_i B hB
    obtain ⟨C, hC, e⟩ := h id B hB
    rw [hC]
    simp only [e.sz, e.els, e.gen]
    exact hr
  · simp at hr
theorem cellsAt_mono (h : Hle H H2) {x : AV} {cs : List AV} (hr : cellsAt H x = some cs) : cellsAt H2 x = some cs := by
  unfold cellsAt at hr ⊢
  split at hr
  · rename_i id g i off
    split at hr
    · rename_i B hB
      obtain ⟨C, hC, e⟩ := h id B hB
      simp only [hC, e.els, e.gen]
      exact hr
    · simp at hr
  · exact hr
  · simp at hr
theorem alive_mono (h : Hle H H2) {id g : Nat} (hr : alive H id g = true) : alive H2 id g = true := by
  unfold alive at hr ⊢
  split at hr
  · rename_i B hB
    obtain ⟨C, hC, e⟩ := h id B hB
    rw [hC]; simp only [e.gen]; exact hr
  · simp at hr
theorem srcEls_mono (h : Hle H H2) {n : Nat} {x : AV} {r : List AV} (hr : srcEls H n x = some r) : srcEls H2 n x = some r := by
  unfold srcEls at hr ⊢
  split at hr
  · exact hr
  · exact hr
  · split at hr
    · rename_i he
      rw [refEls_mono h he]; exact hr
    · simp at hr
  · exact hr
  · simp at hr

theorem sliceA_mono (h : Hle H H2) {t : TypeId} {x : AV} {lo hi mx : Option Operand} {r : AV} (hr : sliceA P t H ρ x lo hi mx = some r) : sliceA P t H2 ρ x lo hi mx = some r := by
  cases x with
  | ref id g off len =>
    simp only [sliceA] at hr ⊢
    split at hr
    · split at hr
      · rename_i h1 h2 h3
        rw [refEls_mono h h1, h2, h3]; exact hr
      · simp at hr
    · split at hr
      · rename_i h1 h2 h3 h4
        rw [refEls_mono h h1, h2, h3, h4]; exact hr
      · simp at hr
    · simp at hr
  | _ => exact hr
theorem fieldAddrA_mono (h : Hle H H2) {t : TypeId} {x : AV} {f : Nat} {r : AV} (hr : fieldAddrA P t H x f = some r) : fieldAddrA P t H2 x f = some r := by
  unfold fieldAddrA at hr ⊢
  split at hr
  · split at hr
    · split at hr
      · split at hr
        · split at hr
          · rename_i ha
            rw [if_pos (alive_mono h ha)]; exact hr
          · simp at hr
        · exact hr
        · simp at hr
      · simp at hr
    · simp at hr
  · simp at hr
theorem indexAddrA_mono (h : Hle H H2) {t : TypeId} {x ix : AV} {r : AV} (hr : indexAddrA P t H x ix = some r) : indexAddrA P t H2 x ix = some r := by
  unfold indexAddrA at hr ⊢
  split at hr
  · split at hr
    · split at hr
      · exact hr
      · split at hr
        · rename_i he
          rw [refEls_mono h he]; exact hr
        · simp at hr
      · simp at hr
    · split at hr
      · rename_i hc
        rw [if_pos hc]
        split at hr
        · split at hr
          · split at hr
            · rename_i ha
              rw [if_pos (alive_mono h ha)]; exact hr
            · simp at hr
          · exact hr
          · simp at hr
        · simp at hr
      · simp at hr
    · simp at hr
  · simp at hr
theorem lenA_mono (h : Hle H H2) {t : TypeId} {x : AV} {r : AV} (hr : lenA P t H x = some r) : lenA P t H2 x = some r := by
  unfold lenA at hr ⊢
  split at hr
  · exact hr
  · exact hr
  · split at hr
    · exact hr
    · exact hr
    · split at hr
      · rename_i hs
        obtain ⟨q, hq⟩ := Option.isSome_iff_exists.1 hs
        rw [if_pos (by rw [refEls_mono h hq]; rfl)]; exact hr
      · simp at hr
    · simp at hr
  · simp at hr
theorem nilCheckA_mono (h : Hle H H2) {x r : AV} (hr : nilCheckA H x = some r) : nilCheckA H2 x = some r := by
  unfold nilCheckA at hr ⊢
  split at hr
  · split at hr
    · rename_i ha
      rw [if_pos (alive_mono h ha)]; exact hr
    · simp at hr
  · exact hr
  · exact hr
  · simp at hr
theorem convA_mono (h : Hle H H2) {src dst : TypeId} {x : AV} {r : Out} (hr : convA P src dst H x = some r) : convA P src dst H2 x = some r := by
  unfold convA at hr ⊢
  split at hr
  · exact hr
  · exact hr
  · split at hr
    · split at hr
      · split at hr
        · rename_i he
          rw [srcEls_mono h he]; exact hr
        · simp at hr
      · simp at hr
    · simp at hr

theorem map_mono {α β : Type} {x y : Option α} {f : α → β} {r : β} (h : ∀ a, x = some a → y = some a) (hr : x.map f = some r) : y.map f = some r := by
  rw [Option.map_eq_some_iff] at hr ⊢
  obtain ⟨a, h1, h2⟩ := hr
  exact ⟨a, h a h1, h2⟩

theorem aop_mono (h : Hle H H2) {o : Op} (hw : isWr o = false) {out : Out} (hr : aop P o ρ H = some out) : aop P o ρ H2 = some out := by
  cases o with
  | load t a =>
    simp only [aop] at hr ⊢
    split at hr
    · rename_i hc
      rw [cellsAt_mono h hc]; exact hr
    · simp at hr
  | store => simp [isWr] at hw
  | nilCheck x => exact map_mono (fun a ha => nilCheckA_mono h ha) hr
  | convert => exact convA_mono h hr
  | slice => exact map_mono (fun a ha => sliceA_mono h ha) hr
  | fieldAddr => exact map_mono (fun a ha => fieldAddrA_mono h ha) hr
  | indexAddr => exact map_mono (fun a ha => indexAddrA_mono h ha) hr
  | call c =>
    simp only [aop] at hr ⊢
    split at hr
    · rename_i b hb
      unfold biA at hr ⊢
      split at hr
      · split at hr
        · exact map_mono (fun a ha => lenA_mono h ha) hr
        · simp at hr
      · obtain ⟨cal, args, ts⟩ := c
        simp only at hb
        subst hb
        cases b <;> first
          | exact hr
          | (simp [isWr] at hw)
      · simp at hr
    · simp at hr
  | _ => exact hr

theorem aop_pure {o : Op} (hw : isPure o = true) (H H2 : Heap) : aop P o ρ H = aop P o ρ H2 := by
  cases o <;> first | rfl | (simp [isPure] at hw)

/-- Over a heap that has more blocks, none of them turned. -/
theorem aop_ext (h : ∀ id B, H id = some B → H2 id = some B) {o : Op} {out : Out} (hr : aop P o ρ H = some out) : aop P o ρ H2 = some out := by
  have hle : Hle H H2 := fun id B hB => ⟨B, h id B hB, Same.refl B⟩
  by_cases hw : isWr o = false
  · exact aop_mono hle hw hr
  · cases o with
    | store t a v =>
      simp only [aop, storeA] at hr ⊢
      split at hr
      · split at hr
        · rename_i hB hn
          simp only [h _ _ hB, hn]
          exact hr
        · simp at hr
      · simp at hr
    | call c =>
      simp only [aop] at hr ⊢
      split at hr
      · rename_i b hb
        unfold biA at hr ⊢
        split at hr
        · split at hr
          · exact map_mono (fun a ha => lenA_mono hle ha) hr
          · simp at hr
        · split at hr
          · split at hr
            · have key : ∀ t s x out, appendA P t H s x = some out → appendA P t H2 s x = some out := by
                intro t s x out hr
                unfold appendA at hr ⊢
                split at hr
                · split at hr
                  · split at hr
                    · rename_i hc
                      rw [if_pos hc]
                      split at hr
                      · rename_i he
                        rw [srcEls_mono hle he]
                        simp only
                        split at hr
                        · exact hr
                        · split at hr
                          · rename_i hB
                            rw [h _ _ hB]; exact hr
                          · simp at hr
                        · simp at hr
                      · simp at hr
                    · simp at hr
                  · simp at hr
                · simp at hr
              split at hr
              · exact key _ _ _ _ hr
              · exact key _ _ _ _ hr
              · simp at hr
            · simp at hr
          · split at hr
            · unfold copyA at hr ⊢
              split at hr
              · split at hr
                · split at hr
                  · rename_i he
                    rw [srcEls_mono hle he]
                    simp only
                    split at hr
                    · split at hr
                      · rename_i hB
                        rw [h _ _ hB]; exact hr
                      · simp at hr
                    · exact hr
                    · exact hr
                    · simp at hr
                  · simp at hr
                · simp at hr
              · simp at hr
            · simp at hr
          · exact hr
          · exact hr
          · simp at hr
        · simp at hr
      · simp at hr
    | _ => simp [isWr] at hw

theorem wr_isWr {o : Op} {v : AV} {id : Nat} {b : Blk} (h : aop P o ρ H = some (.wr v id b)) : isWr o = true ∧ ∃ B, H id = some B ∧ B.gen ≤ b.gen := by
  cases o with
  | store t a v =>
    refine ⟨rfl, ?_⟩
    simp only [aop, storeA] at h
    split at h
    · split at h
      · split at h
        · rename_i hB _ _
          split at h
          · split at h
            · simp at h
              obtain ⟨_, rfl, rfl⟩ := h
              exact ⟨_, hB, Nat.le_refl _⟩
            · simp at h
          · simp at h
        · simp at h
      · simp at h
    · simp at h
  | call c =>
    simp only [aop] at h
    split at h
    · rename_i b' hb
      obtain ⟨cal, args, ts⟩ := c
      simp only at hb
      subst hb
      unfold biA at h
      split at h
      · split at h
        · rw [Option.map_eq_some_iff] at h; obtain ⟨_, _, h⟩ := h; cases h
        · simp at h
      · split at h
        · refine ⟨rfl, ?_⟩
          have key : ∀ t s x, appendA P t H s x = some (.wr v id b) → ∃ B, H id = some B ∧ B.gen ≤ b.gen := by
            intro t s x h
            unfold appendA at h
            split at h
            · split at h
              · split at h
                · split at h
                  · split at h
                    · split at h
                      · simp at h
                      · split at h <;> simp at h
                    · split at h
                      · rename_i hB
                        split at h
                        · rename_i hc
                          simp at h
                          obtain ⟨_, rfl, rfl⟩ := h
                          exact ⟨_, hB, by simp; omega⟩
                        · simp at h
                      · simp at h
                    · simp at h
                  · simp at h
                · simp at h
              · simp at h
            · simp at h
          split at h
          · split at h
            · exact key _ _ _ h
            · exact key _ _ _ h
            · simp at h
          · simp at h
        · refine ⟨rfl, ?_⟩
          split at h
          · unfold copyA at h
            split at h
            · split at h
              · split at h
                · split at h
                  · split at h
                    · rename_i hB
                      split at h
                      · rename_i hc
                        simp at h
                        obtain ⟨_, rfl, rfl⟩ := h
                        exact ⟨_, hB, by simp; omega⟩
                      · simp at h
                    · simp at h
                  · simp at h
                  · split at h <;> simp at h
                  · simp at h
                · simp at h
              · simp at h
            · simp at h
          · simp at h
        · rw [Option.map_eq_some_iff] at h; obtain ⟨_, _, h⟩ := h; cases h
        · rw [Option.map_eq_some_iff] at h; obtain ⟨_, _, h⟩ := h; cases h
        · simp at h
      · simp at h
    · simp at h
  | convert =>
    exfalso
    simp only [aop, convA] at h
    split at h
    · split at h <;> (try split at h) <;> simp at h
    · split at h
      · split at h <;> (try split at h) <;> simp at h
      · simp at h
    · split at h
      · split at h
        · split at h
          · rw [Option.map_eq_some_iff] at h; obtain ⟨_, _, h⟩ := h; cases h
          · simp at h
        · simp at h
      · simp at h
  | makeSlice => exfalso; simp only [aop, makeSliceA] at h; (repeat' split at h) <;> simp at h
  | makeFunc => exfalso; simp only [aop, mkFuncA] at h; (repeat' split at h) <;> simp at h
  | nilCheck | binOp | unOp | slice | fieldAddr | indexAddr | index | extract => exfalso; simp only [aop] at h; rw [Option.map_eq_some_iff] at h; obtain ⟨_, _, h⟩ := h; cases h
  | load | field =>
    exfalso
    simp only [aop] at h
    split at h
    · first
        | (rw [Option.map_eq_some_iff] at h; obtain ⟨_, _, h⟩ := h; cases h)
        | (split at h
           · rw [Option.map_eq_some_iff] at h; obtain ⟨_, _, h⟩ := h; cases h
           · simp at h)
    · simp at h
  | build =>
    exfalso
    simp only [aop] at h
    split at h
    · split at h
      · rw [Option.map_eq_some_iff] at h; obtain ⟨_, _, h⟩ := h; cases h
      · simp at h
    · simp at h
  | buildSlice =>
    exfalso
    simp only [aop] at h
    split at h
    · split at h
      · split at h
        · rw [Option.map_eq_some_iff] at h; obtain ⟨_, _, h⟩ := h; cases h
        · simp at h
      · simp at h
    · simp at h
  | _ => exfalso; simp only [aop] at h; first | (simp at h; done) | (split at h <;> (try split at h) <;> simp at h)

theorem dcs_mapM_mono {f g : AV → Option AV} (h : ∀ x y, f x = some y → g x = some y) : ∀ {cs ds : List AV}, cs.mapM f = some ds → cs.mapM g = some ds := by
  intro cs
  induction cs with
  | nil => intro ds hr; exact hr
  | cons c cs ih =>
    intro ds hr
    simp only [List.mapM_cons] at hr ⊢
    cases hc : f c with
    | none => simp [hc] at hr
    | some d =>
      cases hm : cs.mapM f with
      | none => simp [hc, hm] at hr
      | some ds' =>
        rw [h c d hc, ih hm]
        simpa [hc, hm] using hr
theorem dcs_mono {f g : AV → Option AV} (h : ∀ x y, f x = some y → g x = some y) {cs ds : List AV} (hr : dcs f cs = some ds) : dcs g cs = some ds := by
  unfold dcs at hr ⊢
  split at hr
  · rename_i hc; rw [if_pos hc]; exact hr
  · rename_i hc; rw [if_neg hc]; exact dcs_mapM_mono h hr
theorem de_mono {f g : AV → Option AV} (h : ∀ x y, f x = some y → g x = some y) {x d : AV} (hr : de f x = some d) : de g x = some d := by
  unfold de at hr ⊢
  split at hr
  · exact map_mono (fun a ha => dcs_mono h ha) hr
  · exact h _ _ hr
theorem dl_mono {f g : AV → Option AV} (h : ∀ x y, f x = some y → g x = some y) {xs ds : List AV} (hr : dl f xs = some ds) : dl g xs = some ds := by
  unfold dl at hr ⊢
  split at hr
  · rename_i hc; rw [if_pos hc]; exact hr
  · rename_i hc; rw [if_neg hc]; exact dcs_mapM_mono (fun x y hx => de_mono h hx) hr
theorem dc_mono (h : Hle H H2) {ro : Bool} : ∀ (n : Nat) (x d : AV), dc ro H n x = some d → dc ro H2 n x = some d := by
  intro n
  induction n with
  | zero => intro x d hr; exact hr
  | succ n ih =>
    intro x d hr
    cases x with
    | ref id g off len =>
      simp only [dc] at hr ⊢
      split at hr
      · rename_i B hB
        obtain ⟨C, hC, e⟩ := h id B hB
        rw [hC]
        simp only [e.els, e.gen]
        split at hr
        · rename_i hc
          rw [if_pos ⟨hc.1, hc.2.1, fun hro => by
            cases ho : C.own with
            | false => rfl
            | true => have := e.own ho; rw [hc.2.2 hro] at this; cases this⟩]
          exact map_mono (fun a ha => dl_mono ih ha) hr
        · simp at hr
      · simp at hr
    | ptr id g i off =>
      simp only [dc] at hr ⊢
      split at hr
      · rename_i B hB
        obtain ⟨C, hC, e⟩ := h id B hB
        rw [hC]
        simp only [e.els, e.gen]
        split at hr
        · rename_i hc
          rw [if_pos ⟨hc.1, fun hro => by
            cases ho : C.own with
            | false => rfl
            | true => have := e.own ho; rw [hc.2 hro] at this; cases this⟩]
          split at hr
          · split at hr
            · rename_i ho
              simp only [*, if_true]
              exact map_mono (fun a ha => dcs_mono ih ha) hr
            · simp at hr
          · simp at hr
        · simp at hr
      · simp at hr
    | func f caps => exact map_mono (fun a ha => dcs_mono ih ha) hr
    | _ => exact hr
theorem dval_mono (h : Hle H H2) {ro : Bool} {args ds : List AV} (hr : args.mapM (dval ro H) = some ds) : args.mapM (dval ro H2) = some ds :=
  dcs_mapM_mono (fun _ _ hx => de_mono (dc_mono h 6) hx) hr

theorem aop_congr {o : Op} (h : ∀ x ∈ o.operands, ρ x = ρ' x) : aop P o ρ H = aop P o ρ' H := by
  have bnd : ∀ (d : Nat) (x : Option Operand), (∀ y, x = some y → ρ y = ρ' y) → bndA ρ d x = bndA ρ' d x := by
    intro d x hx
    cases x with
    | none => rfl
    | some y => simp only [bndA]; rw [hx y rfl]
  cases o with
  | build t parts =>
    have : parts.toList.map (fun p => (p.1, ρ p.2)) = parts.toList.map fun p => (p.1, ρ' p.2) := by
      refine List.map_congr_left fun p hp => ?_
      rw [h p.2 (by simp [Op.operands]; exact ⟨p.1, by simpa using hp⟩)]
    simp only [aop, this]
  | buildSlice t len parts =>
    have : parts.toList.map (fun p => (p.1, ρ p.2)) = parts.toList.map fun p => (p.1, ρ' p.2) := by
      refine List.map_congr_left fun p hp => ?_
      rw [h p.2 (by simp [Op.operands]; exact ⟨p.1, by simpa using hp⟩)]
    simp only [aop, this]
  | slice t x lo hi mx =>
    have h1 := h x (by simp [Op.operands])
    have h2 : ∀ d, bndA ρ d lo = bndA ρ' d lo := fun d => bnd d lo (fun y hy => h y (by subst hy; simp [Op.operands]))
    have h3 : ∀ d, bndA ρ d hi = bndA ρ' d hi := fun d => bnd d hi (fun y hy => h y (by subst hy; simp [Op.operands]))
    have h4 : ∀ m, mx = some m → ρ m = ρ' m := fun y hy => h y (by subst hy; simp [Op.operands])
    simp only [aop, h1, sliceA, h2, h3]
    cases mx with
    | none =>
      congr 1
      generalize ρ' x = v
      cases v <;> first | rfl | (cases tk P t <;> rfl)
    | some m =>
      have h5 := h4 m rfl
      congr 1
      generalize ρ' x = v
      cases v <;> first | rfl | (cases tk P t <;> first | rfl | simp only [h5])
  | makeFunc fn first caps =>
    simp only [aop, mkFuncA]
    have : caps.toList.map ρ = caps.toList.map ρ' := List.map_congr_left fun x hx => h x (by simp [Op.operands]; exact .inr (by simpa using hx))
    rw [this]
  | call c =>
    simp only [aop, biA]
    split
    · rename_i b hb
      have ha : ∀ x ∈ c.args.toList, ρ x = ρ' x := fun x hx => h x (by simp only [Op.operands, Call.operands, hb]; simpa using hx)
      split
      · rename_i x hx
        rw [hx] at ha
        rw [ha x (by simp)]
      · rename_i x y hx
        rw [hx] at ha
        rw [ha x (by simp), ha y (by simp)]
      · rfl
    · rfl
  | _ => simp only [aop] <;> simp only [Op.operands] at h <;> (first | rfl | (rw [h _ (by simp)]; done) | (rw [h _ (by simp), h _ (by simp)]; done) | (simp only [h _ (show _ ∈ #[_, _] by simp), h _ (show _ ∈ #[_] by simp)]; done) | simp_all)
end
end Go.Ab

/- A region that draws its order: whatever the order, the end is that of the text's order. -/
namespace Go.Ab
open Go.RowKit

def maskOf (acc : List Nat) (o : Oper) : Nat := o.after.toList.foldl (fun s e => if Region.binds .any e then s ||| 2 ^ e.on ||| acc.getD e.on 0 else s) 0
def masks : List Oper → List Nat → List Nat
  | [], acc => acc
  | o :: os, acc => masks os (acc ++ [maskOf acc o])
def apartA (ops : Array Oper) (x y : Oper) : Bool :=
  (match x.dst with
   | some d => !(y.looksAt ops).contains d
   | none => true) &&
  (match y.dst with
   | some d => !(x.looksAt ops).contains d
   | none => true) && !(isWr x.op && !isPure y.op) && !(isWr y.op && !isPure x.op)
def dstsApart (x y : Oper) : Bool :=
  match x.dst, y.dst with
  | some d, some e => d != e
  | _, _ => true
/-- What a region that draws its order must be like. -/
def drawOk (ops : Array Oper) : Bool :=
  let m := masks ops.toList []
  (List.range ops.size).all fun i =>
    match ops[i]? with
    | none => false
    | some y => (y.after.toList.all fun e => !Region.binds .any e || decide (e.on < i)) &&
      (List.range i).all fun j => match ops[j]? with
        | none => false
        | some x => dstsApart x y && ((m.getD i 0).testBit j || apartA ops x y)

section mask
theorem masks_append : ∀ (os : List Oper) (acc : List Nat), ∃ t, masks os acc = acc ++ t ∧ t.length = os.length := by
  intro os
  induction os with
  | nil => intro acc; exact ⟨[], by simp [masks], rfl⟩
  | cons o os ih =>
    intro acc
    obtain ⟨t, h1, h2⟩ := ih (acc ++ [maskOf acc o])
    exact ⟨maskOf acc o :: t, by simp [masks, h1], by simp [h2]⟩
theorem masks_at : ∀ (os : List Oper) (acc : List Nat) (i : Nat) (o : Oper), os[i]? = some o → (masks os acc).getD (acc.length + i) 0 = maskOf ((masks os acc).take (acc.length + i)) o := by
  intro os
  induction os with
  | nil => intro acc i o h; simp at h
  | cons x os ih =>
    intro acc i o h
    cases i with
    | zero =>
      simp at h; subst h
      obtain ⟨t, h1, _⟩ := masks_append os (acc ++ [maskOf acc x])
      simp only [masks, h1, Nat.add_zero]
      rw [List.append_assoc, List.take_left]
      simp [List.getD]
    | succ i =>
      simp at h
      have := ih (acc ++ [maskOf acc x]) i o h
      simp only [List.length_append, List.length_singleton] at this
      simp only [masks]
      rw [show acc.length + (i + 1) = acc.length + 1 + i by omega]
      exact this
theorem maskOf_bit (acc : List Nat) (o : Oper) (j : Nat) (h : (maskOf acc o).testBit j = true) : ∃ e ∈ o.after.toList, Region.binds .any e = true ∧ (j = e.on ∨ (acc.getD e.on 0).testBit j = true) := by
  unfold maskOf at h
  have key : ∀ (l : List Edge) (s : Nat), (l.foldl (fun s e => if Region.binds .any e then s ||| 2 ^ e.on ||| acc.getD e.on 0 else s) s).testBit j = true → s.testBit j = true ∨ ∃ e ∈ l, Region.binds .any e = true ∧ (j = e.on ∨ (acc.getD e.on 0).testBit j = true) := by
    intro l
    induction l with
    | nil => intro s h; exact .inl h
    | cons e l ih =>
      intro s h
      simp only [List.foldl_cons] at h
      rcases ih _ h with h | ⟨e', h1, h2⟩
      · split at h
        · rename_i hb
          simp only [Nat.testBit_or, Bool.or_eq_true, Nat.testBit_two_pow, decide_eq_true_eq] at h
          rcases h with (h | h) | h
          · exact .inl h
          · exact .inr ⟨e, by simp, hb, .inl h.symm⟩
          · exact .inr ⟨e, by simp, hb, .inr h⟩
        · exact .inl h
      · exact .inr ⟨e', by simp [h1], h2⟩
  rcases key _ 0 h with h | h
  · simp at h
  · exact h
/-- What is marked as an ancestor is there where all that comes first is there. -/
theorem anc_sound {ops : Array Oper} {S : Nat → Prop} (hlt : ∀ (i : Nat) (o : Oper), ops[i]? = some o → ∀ e ∈ o.after.toList, Region.binds .any e = true → e.on < i)
    (hcl : ∀ (i : Nat) (o : Oper), ops[i]? = some o → S i → ∀ e ∈ o.after.toList, Region.binds .any e = true → S e.on) :
    ∀ (i : Nat) (o : Oper), ops[i]? = some o → (∀ e ∈ o.after.toList, Region.binds .any e = true → S e.on) → ∀ j, ((masks ops.toList []).getD i 0).testBit j = true → S j := by
  intro i
  induction i using Nat.strongRecOn with
  | _ i ih =>
    intro o ho hS j hj
    have hm := masks_at ops.toList [] i o (by simpa using ho)
    simp only [List.length_nil, Nat.zero_add] at hm
    rw [hm] at hj
    obtain ⟨e, he, hb, hj⟩ := maskOf_bit _ _ _ hj
    have hlt' := hlt i o ho e he hb
    have hs := hS e he hb
    rcases hj with rfl | hj
    · exact hs
    · obtain ⟨x, hx⟩ : ∃ x, ops[e.on]? = some x := by
        have := (Array.getElem?_eq_some_iff.1 ho).1
        exact ⟨ops[e.on], by simp [show e.on < ops.size by omega]⟩
      have hg : ((masks ops.toList []).take i).getD e.on 0 = (masks ops.toList []).getD e.on 0 := by
        simp only [List.getD, List.getElem?_take_of_lt hlt']
      rw [hg] at hj
      exact ih e.on hlt' x hx (hcl e.on x hx hs) j hj
end mask

theorem opnd_agree {ops : Array Oper} {o : Oper} {τ τ' : Nat → AV} (h : ∀ t ∈ o.looksAt ops, τ t = τ' t) : ∀ x ∈ o.op.operands, opnd τ x = opnd τ' x := by
  intro x hx
  cases x with
  | tmp t =>
    refine h t ?_
    simp only [Oper.looksAt, List.mem_append, List.mem_filterMap]
    exact .inl ⟨.tmp t, by simpa using hx, rfl⟩
  | _ => rfl
theorem callee_congr {ops : Array Oper} {o : Oper} {τ τ' : Nat → AV} (h : ∀ t ∈ o.looksAt ops, τ t = τ' t) : callee o.op τ = callee o.op τ' := by
  have ho := opnd_agree h
  unfold callee
  split
  · rename_i c hc
    rw [hc] at ho
    split
    · rename_i x hx
      have h1 : opnd τ x = opnd τ' x := ho x (by simp [Op.operands, Call.operands, hx])
      have h2 : c.args.toList.map (opnd τ) = c.args.toList.map (opnd τ') := List.map_congr_left fun y hy => ho y (by simp only [Op.operands, Call.operands, hx]; simp; exact .inr (by simpa using hy))
      rw [h1, h2]
    · rfl
  · rfl
theorem wantedA_congr {ops : Array Oper} {o : Oper} {τ τ' : Nat → AV} (h : ∀ t ∈ o.looksAt ops, τ t = τ' t) : wantedA ops τ o = wantedA ops τ' o := by
  unfold wantedA
  split
  · rfl
  · rename_i j want hg
    split
    · rename_i d hd
      rw [h d (by simp only [Oper.looksAt, hg, List.mem_append]; right; simp [hd])]
    · rfl

/-- What an operation comes to over a heap, where it turns no block. -/
def QD (P : Program) (N : Prop) (ops : Array Oper) (slot : Nat) (o : Oper) (τ : Nat → AV) (Hx : Heap) (v : AV) : Prop :=
  (wantedA ops τ o = some false ∧ v = .tup []) ∨
  (wantedA ops τ o = some true ∧
    ((callee o.op τ = none ∧ (aop P o.op (opnd τ) Hx = some (.val v) ∨ ∃ b mv B, aop P o.op (opnd τ) Hx = some (.new b mv) ∧ N ∧ Hx slot = some B ∧ B.sz = b.sz ∧ B.els = b.els ∧ v = mv slot B.gen)) ∨
     ∃ f args ds r ro, callee o.op τ = some (f, args) ∧ args.mapM (dval ro Hx) = some ds ∧ AC P f ds r ∧ (ro = true ∨ noMem r = true) ∧ ownOne r = true ∧
       ((resB r = none ∧ v = r) ∨ ∃ p B, resB r = some p ∧ N ∧ Hx slot = some B ∧ B.sz = p.1 ∧ B.els = p.2 ∧ v = resV slot B.gen r)))

section
variable {P : Program} {A0 : Nat → Prop} {B0 nt : Nat} {w0 : Start} {w w' : World} {ι ι' : Plc} {a : Act} {ops : Array Oper} {H Hx : Heap}

theorem exec_q (hH : HR w ι Hx (Al A0 B0 w ι Hx) B0) (hB0 : B0 ≤ w.heap.size) {slot : Nat} (hι : ι slot = none) {o : Oper} {τ : Nat → AV} {v : AV} (htm : ∀ t ∈ o.looksAt ops, VR w ι Hx (Al A0 B0 w ι Hx) (τ t) (a.tmps.getD t undef))
    {N : Prop} (hq : QD P N ops slot o τ Hx v) {K : Act → World → Prop} {Q : Exit → Act → World → Prop}
    (hK : ∀ u w' ι', Ev w ι Hx w' ι' Hx → HR w' ι' Hx (Al A0 B0 w' ι' Hx) B0 → VR w' ι' Hx (Al A0 B0 w' ι' Hx) v u → Below B0 w w' → (∀ j, j ≠ slot → ι' j = ι j) → (¬ N → ι' slot = none) → K (a.put o.dst u) w') :
    if Region.wanted o (yielded ops a.tmps) then o.wp P a w K Q else K (a.put o.dst undef) w := by
  classical
  let τ' : Nat → AV := fun t => if t ∈ o.looksAt ops then τ t else .undef
  have hag : ∀ t ∈ o.looksAt ops, τ t = τ' t := fun t ht => by simp [τ', ht]
  have htm' : ∀ t, VR w ι Hx (Al A0 B0 w ι Hx) (τ' t) (a.tmps.getD t undef) := by
    intro t
    by_cases ht : t ∈ o.looksAt ops
    · simp only [τ', ht, if_true]; exact htm t ht
    · simp only [τ', ht, if_false]; exact .data _ _ (.undef _)
  let s' : St := ⟨τ', Hx, 0⟩
  have hρ : ∀ x, VR w ι Hx (Al A0 B0 w ι Hx) (opnd τ' x) (a.eval x) := by
    intro x
    cases x with
    | tmp t => exact htm' t
    | const v => exact .data _ _ (DR.const v)
    | global g => exact .data _ _ (.undef _)
    | func f => exact .data _ _ (.func f [] #[] rfl (by simp))
  unfold QD at hq
  rw [wantedA_congr hag, callee_congr hag, aop_congr (opnd_agree hag)] at hq
  rcases hq with ⟨hw, rfl⟩ | ⟨hw, hq⟩
  · rw [wanted_sound (s := s') htm' hw]
    exact hK _ _ ι (Ev.refl _ _ _) hH (.data _ _ (.tup [] #[] rfl (by simp))) (Below.refl _ _) (fun _ _ => rfl) (fun _ => hι)
  · rw [wanted_sound (s := s') htm' hw]
    simp only [if_true]
    unfold Oper.wp
    rcases hq with ⟨_, hop | ⟨b, mv, B, hop, hN, hB, h1, h2, rfl⟩⟩ | ⟨f, args, ds, r, ro, hc, hds, hac, hm, ho, hr⟩
    · obtain ⟨u, h1, h2⟩ := aop_val (P := P) hH hρ o hop
      rw [h1]
      exact hK _ _ ι (Ev.refl _ _ _) hH h2 (Below.refl _ _) (fun _ _ => rfl) (fun _ => hι)
    · obtain ⟨u, w', h3, h4⟩ := aop_new (P := P) hH hρ o hop
      rw [h3]
      obtain ⟨L, e1, e2, e3, e4⟩ := new_at hH hB0 h4 hB h1 h2 hι
      exact hK _ _ _ e1 e2 e3 (e4.mono hB0) (fun j hj => upd_ne _ _ _ _ hj) (fun h => absurd hN h)
    · obtain ⟨hcf, hac⟩ := hac
      have hcs : ∃ vs : Array Value, (execOp a.eval o).run P w = .ok (.enter f vs) w ∧ args.length = vs.size ∧ ∀ (k : Nat) (x : AV) (v : Value), args[k]? = some x → vs[k]? = some v → VR w ι Hx (Al A0 B0 w ι Hx) x v := by
        unfold callee at hc
        split at hc
        · rename_i c hoc
          split at hc
          · rename_i x hx
            split at hc
            · rename_i g caps hg
              simp only [Option.some.injEq, Prod.mk.injEq] at hc
              obtain ⟨rfl, rfl⟩ := hc
              have hv := hρ x
              rw [hg] at hv
              obtain ⟨vs, e, hl, hvs⟩ := hv.of_func
              refine ⟨c.args.map a.eval ++ vs, by simp [execOp, hoc, resolve, hx, Deferred.ofValue, e, invoke, hcf], by simp [hl], fun k y v hk hv => ?_⟩
              by_cases hlt : k < c.args.size
              · rw [List.getElem?_append_left (by simpa using hlt)] at hk
                rw [Array.getElem?_append_left (by simpa using hlt)] at hv
                simp only [List.getElem?_map, Array.getElem?_toList, Array.getElem?_map, Option.map_eq_some_iff] at hk hv
                obtain ⟨p, h5, rfl⟩ := hk
                obtain ⟨q, h6, rfl⟩ := hv
                rw [h5] at h6; cases h6
                exact hρ p
              · rw [List.getElem?_append_right (by simp; omega)] at hk
                rw [Array.getElem?_append_right (by simp; omega)] at hv
                simp at hk hv
                exact hvs _ y v hk hv
            · simp at hc
          · simp at hc
        · simp at hc
      obtain ⟨vs, h1, hl, hvs⟩ := hcs
      rw [h1]
      obtain ⟨hl', hdr⟩ := args_sound hl hvs hH hds
      refine (hac w (Ar ro A0 B0 w ι Hx) vs (fun b hb => hb.2.1) hl' hdr).mono ?_
      rintro e w' ⟨u, rfl, hb, hrr⟩
      simp only
      obtain ⟨ι', e1, e2, e3, e4, e5⟩ := res_ok (id := slot) hH hB0 hb hrr hm ho (by
        intro sz xs hx
        rcases hr with ⟨h, _⟩ | ⟨p, B, h, hN, hB, h3, h4, _⟩
        · rw [h] at hx; cases hx
        · rw [h] at hx; cases hx; exact ⟨B, hB, h3, h4, hι⟩)
      rcases hr with ⟨h, rfl⟩ | ⟨p, B, h, hN, hB, h3, h4, rfl⟩
      · have := e5 h
        subst this
        have e3' := e3 (ngen Hx slot - 1) (fun B hB => by simp [ngen, hB])
        rw [resB_none h] at e3'
        exact hK _ _ _ e1 e2 e3' (hb.mono hB0) e4 (fun _ => hι)
      · exact hK _ _ _ e1 e2 (e3 B.gen (fun C hC => by rw [hB] at hC; cases hC; rfl)) (hb.mono hB0) e4 (fun h => absurd hN h)

/-- The heap tells of more blocks, or of later ones; what lies somewhere stays. -/
theorem grow_ok {H2 : Heap} (hH : HR w ι H (Al A0 B0 w ι H) B0) (h1 : ∀ id B, H id = some B → ∃ C, H2 id = some C ∧ ((Same B C ∧ ∀ L, ι id = some L → ι' id = some L) ∨ B.gen < C.gen))
    (h2 : ∀ id C L, H2 id = some C → ι' id = some L → ∃ B, H id = some B ∧ Same B C ∧ ι id = some L) : Ev w ι H w ι' H2 ∧ HR w ι' H2 (Al A0 B0 w ι' H2) B0 := by
  have hev : Ev w ι H w ι' H2 := by
    refine ⟨Nat.le_refl _, fun _ _ _ => rfl, fun b hb hn id C L e1 e2 e3 => ?_, fun id B hB => ?_⟩
    · obtain ⟨B, hB, hs, hL⟩ := h2 id C L e1 e2
      exact hn id B L hB hL (hs.own e3)
    · obtain ⟨C, hC, h⟩ := h1 id B hB
      rcases h with ⟨hs, hL⟩ | hg
      · exact ⟨C, hC, by rw [hs.gen]; exact Nat.le_refl _, fun _ => ⟨hs.sz, by rw [hs.els]; exact Nat.le_refl _, hL, fun h => by rw [hs.els]; exact h⟩⟩
      · exact ⟨C, hC, by omega, fun h => by omega⟩
  refine ⟨hev, fun id C L e1 e2 => ?_, fun i j B C L M e1 e2 e3 e4 hij ho => ?_⟩
  · obtain ⟨B, hB, hs, hL⟩ := h2 id C L e1 e2
    have hb := (hH.blk id B L hB hL).ev hev rfl
    obtain ⟨c, t, fr', q1, q2, q3⟩ := hb.row
    exact ⟨⟨c, t, fr', q1, by rw [hs.sz]; exact q2, by rw [hs.els]; exact q3⟩, hb.low, by rw [hs.els]; exact hb.len, by rw [hs.sz, hs.els]; exact hb.fit, fun h => by rw [hs.sz]; exact hb.free (hs.own h)⟩
  · obtain ⟨B', hB', hs, hL⟩ := h2 i B L e1 e2
    obtain ⟨C', hC', _, hM⟩ := h2 j C M e3 e4
    exact hH.sep i j B' C' L M hB' hL hC' hM hij (hs.own ho)

def dead (B : Blk) : Blk := ⟨B.sz, [], B.gen + 1, false⟩
def inR (base n id : Nat) : Bool := base ≤ id && id < base + n
/-- The heap at a drawing region's begin: what its operations may make has gone. -/
def clr (base n : Nat) (H : Heap) : Heap := fun id => if inR base n id then none else H id
/-- The heap at its end. -/
def fin (base n : Nat) (H0 h : Heap) : Heap := fun id => match h id with
  | some B => some B
  | none => if inR base n id then (H0 id).map dead else none
def genD (H0 : Heap) : Nat → Nat := fun id => ngen H0 id + 1
end
end Go.Ab
