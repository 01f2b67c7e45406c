/- An abstract machine for the compiled code, and the proof that it is sound: what it shows of a function's body holds of the model's runs (part 2). Conditions: none. -/
import Derived.Test.YtjoomndcdpkplaaDoorAb1
import Derived.ChangeArms
import Derived.ChangeOld
import Derived.Carry
import Derived.SizedLaws
import Derived.OpenShut
set_option linter.unusedVariables false
set_option linter.unusedSimpArgs false
/- The main law on regions that draw their order. -/
namespace Go.Ab
open Go.RowKit

/-- The run in the text's order, step by step. -/
structure Trace (P : Program) (nt : Nat) (H0 : Heap) (ops : Array Oper) (base : Nat) (st : Nat → St) : Prop where
  step : ∀ (i : Nat) (o : Oper), ops[i]? = some o → AStep P nt (some (genD H0)) ops (base + i) o (st i) (st (i + 1))
  h0 : (st 0).H = clr base ops.size H0

section
variable {P : Program} {A0 : Nat → Prop} {B0 nt : Nat} {w0 : Start} {w w' : World} {ι ι' : Plc} {a : Act} {ops : Array Oper} {H0 : Heap} {base : Nat} {st : Nat → St}

theorem trace_of {K : St → Prop} {G : Option (Nat → Nat)} : ∀ (n i : Nat) (s : St), i + n = ops.size → awpOps P nt G ops base K i (ops.toList.drop i) s →
    ∃ st : Nat → St, st i = s ∧ (∀ k o, i ≤ k → ops[k]? = some o → AStep P nt G ops (base + k) o (st k) (st (k + 1))) ∧ K (st ops.size) := by
  intro n
  induction n with
  | zero =>
    intro i s hi h
    rw [List.drop_of_length_le (by simp; omega)] at h
    exact ⟨fun _ => s, rfl, fun k o hk ho => by have := (Array.getElem?_eq_some_iff.1 ho).1; omega, h⟩
  | succ n ih =>
    intro i s hi h
    have hlt : i < ops.toList.length := by simp; omega
    rw [List.drop_eq_getElem_cons hlt] at h
    obtain ⟨s', h1, h2⟩ := h
    obtain ⟨st, e1, e2, e3⟩ := ih (i + 1) s' (by omega) h2
    have hns : ¬ ops.size = i := by omega
    refine ⟨fun k => if k = i then s else st k, by simp, fun k o hk ho => ?_, by simp only [hns, if_false]; exact e3⟩
    by_cases hki : k = i
    · subst hki
      have : o = ops.toList[k] := by simp at hlt; simp [hlt] at ho; simp [ho]
      subst this
      simp only [if_true, show ¬ (k + 1 = k) by omega, if_false, e1]
      exact h1
    · simp only [hki, if_false, show ¬ (k + 1 = i) by omega]
      exact e2 k o (by omega) ho

theorem step_put {G : Option (Nat → Nat)} {slot : Nat} {o : Oper} {s s' : St} (h : AStep P nt G ops slot o s s') : ∃ v, s'.τ = put s.τ o.dst v := by
  obtain ⟨_, h⟩ := h
  rcases h with ⟨_, rfl⟩ | ⟨_, ⟨_, out, _, rfl⟩ | ⟨f, args, H', r, _, _, rfl⟩ | ⟨_, f, args, H', r, _, _, rfl⟩⟩
  · exact ⟨_, rfl⟩
  · cases out <;> exact ⟨_, rfl⟩
  · unfold St.res; split <;> exact ⟨_, rfl⟩
  · exact ⟨_, rfl⟩

theorem freeze_none {fr : List Nat} {H : Heap} {id : Nat} (h : H id = none) : freeze fr H id = none := by simp only [freeze, h]; split <;> rfl
theorem freeze_hle (fr : List Nat) (H : Heap) : Hle H (freeze fr H) := by
  intro id B hB
  simp only [freeze]
  split
  · exact ⟨{ B with own := false }, by rw [hB]; rfl, ⟨rfl, rfl, rfl, fun h => by cases h⟩⟩
  · exact ⟨B, hB, Same.refl B⟩

theorem step_none {G : Nat → Nat} {slot : Nat} {o : Oper} {s s' : St} (h : AStep P nt (some G) ops slot o s s') {id : Nat} (hid : id ≠ slot) (hn : s.H id = none) : s'.H id = none := by
  obtain ⟨_, h⟩ := h
  rcases h with ⟨_, rfl⟩ | ⟨_, ⟨_, out, ho, rfl⟩ | ⟨f, args, H', r, _, ⟨fr, _, _, rfl, _⟩, rfl⟩ | ⟨hg, _⟩⟩
  · exact hn
  · cases out with
    | val v => exact hn
    | new b mv => simp only [St.out]; rw [upd_ne _ _ _ _ hid]; exact hn
    | wr v i b =>
      obtain ⟨_, B, hB, _⟩ := wr_isWr ho
      simp only [St.out]
      rw [upd_ne _ _ _ _ (by rintro rfl; rw [hn] at hB; cases hB)]; exact hn
  · unfold St.res; split
    · simp only; rw [upd_ne _ _ _ _ hid]; exact freeze_none hn
    · exact freeze_none hn
  · cases hg

/-- A step that writes nothing only adds. -/
theorem step_hle {G : Nat → Nat} {slot : Nat} {o : Oper} {s s' : St} (h : AStep P nt (some G) ops slot o s s') (hw : isWr o.op = false) (hn : s.H slot = none) : Hle s.H s'.H := by
  obtain ⟨_, h⟩ := h
  have hup : ∀ (H : Heap) (x : Option Blk), H slot = none → Hle H (upd H slot x) := by
    intro H x hn id B hB
    refine ⟨B, ?_, Same.refl B⟩
    rw [upd_ne _ _ _ _ (by rintro rfl; rw [hn] at hB; cases hB)]; exact hB
  rcases h with ⟨_, rfl⟩ | ⟨_, ⟨_, out, ho, rfl⟩ | ⟨f, args, H', r, _, ⟨fr, _, _, rfl, _⟩, rfl⟩ | ⟨hg, _⟩⟩
  · exact Hle.refl _
  · cases out with
    | val v => exact Hle.refl _
    | new b mv => exact hup _ _ hn
    | wr v i b => have := (wr_isWr ho).1; rw [hw] at this; cases this
  · unfold St.res; split
    · exact (freeze_hle fr s.H).trans (hup _ _ (freeze_none hn))
    · exact freeze_hle fr s.H
  · cases hg

theorem Trace.free (tr : Trace P nt H0 ops base st) : ∀ (k : Nat), k ≤ ops.size → ∀ j, k ≤ j → j < ops.size → (st k).H (base + j) = none := by
  intro k
  induction k with
  | zero =>
    intro _ j _ hj
    rw [tr.h0]
    have : inR base ops.size (base + j) = true := by simp [inR]; omega
    simp [clr, this]
  | succ k ih =>
    intro hk j hkj hj
    have ho : ops[k]? = some ops[k] := by simp [show k < ops.size by omega]
    exact step_none (tr.step k _ ho) (by omega) (ih (by omega) j (by omega) hj)

theorem Trace.out (tr : Trace P nt H0 ops base st) : ∀ (k : Nat), k ≤ ops.size → ∀ id, inR base ops.size id = false → H0 id = none → (st k).H id = none := by
  intro k
  induction k with
  | zero => intro _ id h1 h2; rw [tr.h0]; simp [clr, h1, h2]
  | succ k ih =>
    intro hk id h1 h2
    have ho : ops[k]? = some ops[k] := by simp [show k < ops.size by omega]
    refine step_none (tr.step k _ ho) ?_ (ih (by omega) id h1 h2)
    rintro rfl
    simp [inR] at h1; omega

theorem Trace.hle (tr : Trace P nt H0 ops base st) : ∀ (d k : Nat), k + d ≤ ops.size → (∀ (j : Nat) (o : Oper), k ≤ j → j < k + d → ops[j]? = some o → isWr o.op = false) → Hle (st k).H (st (k + d)).H := by
  intro d
  induction d with
  | zero => intro k _ _; exact Hle.refl _
  | succ d ih =>
    intro k hk h
    have ho : ops[k + d]? = some ops[k + d] := by simp [show k + d < ops.size by omega]
    exact (ih k (by omega) (fun j o h1 h2 h3 => h j o h1 (by omega) h3)).trans (step_hle (tr.step (k + d) _ ho) (h (k + d) _ (by omega) (by omega) ho) (tr.free (k + d) (by omega) (k + d) (Nat.le_refl _) (by omega)))

/-- The generation of what a slot holds, once it holds something. -/
theorem Trace.gen (tr : Trace P nt H0 ops base st) : ∀ (k : Nat), k ≤ ops.size → ∀ j, j < ops.size → ∀ B, (st k).H (base + j) = some B → genD H0 (base + j) ≤ B.gen := by
  intro k
  induction k with
  | zero =>
    intro hk j hj B hB
    rw [tr.free 0 hk j (Nat.zero_le _) hj] at hB; cases hB
  | succ k ih =>
    intro hk j hj B hB
    have ho : ops[k]? = some ops[k] := by simp [show k < ops.size by omega]
    have hs := tr.step k _ ho
    obtain ⟨_, h⟩ := hs
    rcases h with ⟨_, e⟩ | ⟨_, ⟨_, out, hout, e⟩ | ⟨f, args, H', r, _, ⟨fr, _, _, rfl, _⟩, e⟩ | ⟨hg, _⟩⟩
    · rw [e] at hB; exact ih (by omega) j hj B hB
    · cases out with
      | val v => rw [e] at hB; exact ih (by omega) j hj B hB
      | new b mv =>
        rw [e] at hB
        simp only [St.out, upd] at hB
        split at hB
        · rename_i e; simp at hB; subst hB; rw [e]; exact Nat.le_refl _
        · exact ih (by omega) j hj B hB
      | wr v i b =>
        rw [e] at hB
        simp only [St.out, upd] at hB
        split at hB
        · rename_i e; subst e
          simp at hB; subst hB
          obtain ⟨_, C, hC, hg⟩ := wr_isWr hout
          exact Nat.le_trans (ih (by omega) j hj C hC) hg
        · exact ih (by omega) j hj B hB
    · have fz : ∀ C, freeze fr (st k).H (base + j) = some C → genD H0 (base + j) ≤ C.gen := by
        intro C hC
        simp only [freeze] at hC
        split at hC
        · rw [Option.map_eq_some_iff] at hC
          obtain ⟨D, hD, rfl⟩ := hC
          exact ih (by omega) j hj D hD
        · exact ih (by omega) j hj C hC
      rw [e] at hB
      unfold St.res at hB
      split at hB
      · simp only [upd] at hB
        split at hB
        · rename_i e; simp at hB; subst hB; rw [e]; exact Nat.le_refl _
        · exact fz B hB
      · exact fz B hB
    · cases hg

theorem dst_ne (hok : drawOk ops = true) {i j : Nat} {x y : Oper} (hx : ops[j]? = some x) (hy : ops[i]? = some y) (hij : i ≠ j) {d : Tmp} (h1 : x.dst = some d) (h2 : y.dst = some d) : False := by
  have key : ∀ (i j : Nat) (x y : Oper), j < i → ops[j]? = some x → ops[i]? = some y → dstsApart x y = true := by
    intro i j x y hji hx hy
    simp only [drawOk, List.all_eq_true, List.mem_range] at hok
    have h := hok i (Array.getElem?_eq_some_iff.1 hy).1
    rw [hy] at h
    simp only [Bool.and_eq_true, List.all_eq_true, List.mem_range] at h
    have h := h.2 j hji
    rw [hx] at h
    simp only [Bool.and_eq_true] at h
    exact h.1
  rcases Nat.lt_or_gt_of_ne hij with hlt | hlt
  · have := key j i y x hlt hy hx
    simp [dstsApart, h1, h2] at this
  · have := key i j x y hlt hx hy
    simp [dstsApart, h1, h2] at this

theorem drawOk_edge (hok : drawOk ops = true) {i : Nat} {y : Oper} (hy : ops[i]? = some y) : ∀ e ∈ y.after.toList, Region.binds .any e = true → e.on < i := by
  simp only [drawOk, List.all_eq_true, List.mem_range] at hok
  have h := hok i (Array.getElem?_eq_some_iff.1 hy).1
  rw [hy] at h
  simp only [Bool.and_eq_true, List.all_eq_true, Bool.or_eq_true, Bool.not_eq_true', decide_eq_true_eq] at h
  intro e he hb
  rcases h.1 e he with h | h
  · rw [hb] at h; cases h
  · exact h

theorem drawOk_pair (hok : drawOk ops = true) {i j : Nat} {x y : Oper} (hx : ops[j]? = some x) (hy : ops[i]? = some y) (hji : j < i) : ((masks ops.toList []).getD i 0).testBit j = true ∨ apartA ops x y = true := by
  simp only [drawOk, List.all_eq_true, List.mem_range] at hok
  have h := hok i (Array.getElem?_eq_some_iff.1 hy).1
  rw [hy] at h
  simp only [Bool.and_eq_true, List.all_eq_true, List.mem_range] at h
  have h := h.2 j hji
  rw [hx] at h
  simp only [Bool.and_eq_true, Bool.or_eq_true] at h
  exact h.2

theorem apart_spec {x y : Oper} (h : apartA ops x y = true) : (∀ d, x.dst = some d → d ∉ y.looksAt ops) ∧ (∀ d, y.dst = some d → d ∉ x.looksAt ops) ∧ (isWr x.op = true → isPure y.op = true) ∧ (isWr y.op = true → isPure x.op = true) := by
  simp only [apartA, Bool.and_eq_true, Bool.not_eq_true', Bool.and_eq_false_iff, Bool.not_eq_false'] at h
  obtain ⟨⟨⟨h1, h2⟩, h3⟩, h4⟩ := h
  refine ⟨fun d hd => ?_, fun d hd => ?_, fun hw => ?_, fun hw => ?_⟩
  · rw [hd] at h1; simpa using h1
  · rw [hd] at h2; simpa using h2
  · rcases h3 with h | h
    · rw [hw] at h; cases h
    · exact h
  · rcases h4 with h | h
    · rw [hw] at h; cases h
    · exact h

theorem put_ne {τ : Nat → AV} {d : Option Tmp} {v : AV} {t : Nat} (h : d ≠ some t) : put τ d v t = τ t := by
  cases d with
  | none => rfl
  | some d => exact upd_ne _ _ _ _ (by rintro rfl; exact h rfl)

/-- Temporaries in the text's order. -/
theorem Trace.tau (tr : Trace P nt H0 ops base st) (hok : drawOk ops = true) (t : Nat) : ∀ (k : Nat), k ≤ ops.size →
    (∀ (j : Nat) (o : Oper), j < k → ops[j]? = some o → o.dst = some t → (st k).τ t = (st (j + 1)).τ t) ∧ ((∀ (j : Nat) (o : Oper), j < k → ops[j]? = some o → o.dst ≠ some t) → (st k).τ t = (st 0).τ t) := by
  intro k
  induction k with
  | zero => exact fun _ => ⟨fun j _ h => by omega, fun _ => rfl⟩
  | succ k ih =>
    intro hk
    obtain ⟨i1, i2⟩ := ih (by omega)
    have ho : ops[k]? = some ops[k] := by simp [show k < ops.size by omega]
    obtain ⟨v, hv⟩ := step_put (tr.step k _ ho)
    have keep : ∀ (o : Oper), ops[k]? = some o → o.dst ≠ some t → (st (k + 1)).τ t = (st k).τ t := by
      intro o ho' hne
      rw [ho] at ho'; cases ho'
      rw [hv]
      exact put_ne hne
    refine ⟨fun j o hj hjo hd => ?_, fun h => ?_⟩
    · by_cases hjk : j = k
      · subst hjk; rfl
      · rw [keep _ ho (fun hd' => dst_ne hok hjo ho (by omega) hd hd')]
        exact i1 j o (by omega) hjo hd
    · rw [keep _ ho (h k _ (by omega) ho)]
      exact i2 fun j o hj hjo => h j o (by omega) hjo

/-- Where the writing of a region stands: before operation p, which is the first writing one that has not run. -/
structure AtW (ops : Array Oper) (S : Nat → Prop) (p : Nat) : Prop where
  le : p ≤ ops.size
  wr : ∀ (o : Oper), ops[p]? = some o → isWr o.op = true ∧ ¬ S p
  before : ∀ (k : Nat) (o : Oper), k < p → ops[k]? = some o → isWr o.op = true → S k

/-- What holds while some operations have run, in whatever order. -/
structure RelS (A0 : Nat → Prop) (B0 : Nat) (w0 : Start) (nt : Nat) (ops : Array Oper) (base : Nat) (H0 : Heap) (st : Nat → St) (S : Nat → Prop) (p : Nat) (ι : Plc) (a : Act) (w : World) : Prop where
  tm : ∀ t, (∃ i o, ops[i]? = some o ∧ S i ∧ o.dst = some t ∧ VR w ι (fin base ops.size H0 (st p).H) (Al A0 B0 w ι (fin base ops.size H0 (st p).H)) ((st (i + 1)).τ t) (a.tmps.getD t undef)) ∨
    ((∀ i o, ops[i]? = some o → S i → o.dst ≠ some t) ∧ VR w ι (fin base ops.size H0 (st p).H) (Al A0 B0 w ι (fin base ops.size H0 (st p).H)) ((st 0).τ t) (a.tmps.getD t undef))
  sz : a.tmps.size = nt
  hr : HR w ι (fin base ops.size H0 (st p).H) (Al A0 B0 w ι (fin base ops.size H0 (st p).H)) B0
  df : a.defers = []
  bl : Below B0 w0.w w
  le : B0 ≤ w0.w.heap.size
  ev : Ev w0.w w0.ι w0.H w ι (fin base ops.size H0 (st p).H)
  slots : ∀ i, i < ops.size → (¬ S i ∨ (st p).H (base + i) = Option.none) → ι (base + i) = Option.none
  cl : ∀ (i : Nat) (o : Oper), ops[i]? = some o → S i → ∀ e ∈ o.after.toList, Region.binds .any e = true → S e.on

theorem inR_of {id : Nat} (h : inR base ops.size id = true) : ∃ j, j < ops.size ∧ id = base + j := by
  simp [inR] at h
  exact ⟨id - base, by omega, by omega⟩

/-- The heap goes on from before operation k to before operation k + d, nothing but additions between. -/
theorem Trace.grow (tr : Trace P nt H0 ops base st) {k d : Nat} (hk : k + d ≤ ops.size) (hq : Hle (st k).H (st (k + d)).H)
    (hι : ∀ i, i < ops.size → (st k).H (base + i) = Option.none → ι (base + i) = Option.none) :
    (∀ id B, fin base ops.size H0 (st k).H id = some B → ∃ C, fin base ops.size H0 (st (k + d)).H id = some C ∧ ((Same B C ∧ ∀ L, ι id = some L → ι id = some L) ∨ B.gen < C.gen)) ∧
    (∀ id C L, fin base ops.size H0 (st (k + d)).H id = some C → ι id = some L → ∃ B, fin base ops.size H0 (st k).H id = some B ∧ Same B C ∧ ι id = some L) := by
  constructor
  · intro id B hB
    cases hs : (st k).H id with
    | some D =>
      simp only [fin, hs] at hB
      cases hB
      obtain ⟨C, hC, e⟩ := hq id _ hs
      exact ⟨C, by simp only [fin, hC], .inl ⟨e, fun _ h => h⟩⟩
    | none =>
      simp only [fin, hs] at hB
      split at hB
      · rename_i hr
        cases hd : (st (k + d)).H id with
        | none => exact ⟨B, by simp only [fin, hd, hr, if_true]; exact hB, .inl ⟨Same.refl B, fun _ h => h⟩⟩
        | some C =>
          refine ⟨C, by simp only [fin, hd], .inr ?_⟩
          obtain ⟨j, hj, rfl⟩ := inR_of hr
          have hg := tr.gen (k + d) hk j hj C hd
          rw [Option.map_eq_some_iff] at hB
          obtain ⟨D, hD, rfl⟩ := hB
          simp only [genD, ngen, hD] at hg
          simp only [dead]; omega
      · cases hB
  · intro id C L hC hL
    cases hs : (st k).H id with
    | some D =>
      obtain ⟨E, hE, e⟩ := hq id D hs
      simp only [fin, hE] at hC
      cases hC
      exact ⟨D, by simp only [fin, hs], e, hL⟩
    | none =>
      exfalso
      by_cases hr : inR base ops.size id = true
      · obtain ⟨j, hj, rfl⟩ := inR_of hr
        have := hι j hj hs
        rw [this] at hL; cases hL
      · have hr' : inR base ops.size id = false := by simpa using hr
        have h0 : H0 id = Option.none := by
          cases h0 : H0 id with
          | none => rfl
          | some D =>
            exfalso
            -- what is outside the slots is never lost
            have : ∀ k, k ≤ ops.size → (st k).H id ≠ Option.none := by
              intro k
              induction k with
              | zero => intro _; rw [tr.h0]; simp [clr, hr', h0]
              | succ k ih =>
                intro hk
                have ho : ops[k]? = some ops[k] := by simp [show k < ops.size by omega]
                have hs := tr.step k _ ho
                have ih := ih (by omega)
                obtain ⟨_, h⟩ := hs
                have fz : ∀ fr, freeze fr (st k).H id ≠ Option.none := by
                  intro fr; simp only [freeze]; split
                  · simpa using ih
                  · exact ih
                have up : ∀ (H : Heap) i (b : Blk), H id ≠ Option.none → upd H i (some b) id ≠ Option.none := by
                  intro H i b h; simp only [upd]; split
                  · simp
                  · exact h
                rcases h with ⟨_, e⟩ | ⟨_, ⟨_, out, _, e⟩ | ⟨f, args, H', r, _, ⟨fr, _, _, rfl, _⟩, e⟩ | ⟨hg, _⟩⟩
                · rw [e]; exact ih
                · rw [e]; cases out with
                  | val v => exact ih
                  | new b mv => exact up _ _ _ ih
                  | wr v i b => exact up _ _ _ ih
                · rw [e]; unfold St.res; split
                  · exact up _ _ _ (fz fr)
                  · exact fz fr
                · cases hg
            exact this k (by omega) hs
        have := tr.out (k + d) hk id hr' h0
        simp only [fin, this, hr'] at hC
        simp at hC

/-- What operation i comes to over the heap before p, where i writes nothing. -/
theorem Trace.qd (tr : Trace P nt H0 ops base st) {i p : Nat} {o : Oper} (ho : ops[i]? = some o) (hw : isWr o.op = false) (hq : isPure o.op = true ∨ Hle (st (i + 1)).H (st p).H) {v : AV}
    (hv : (st (i + 1)).τ = put (st i).τ o.dst v) : ∃ v', (o.dst.isSome = true → v' = v) ∧ QD P ((st p).H (base + i) ≠ Option.none) ops (base + i) o (st i).τ (fin base ops.size H0 (st p).H) v' := by
  have hi := (Array.getElem?_eq_some_iff.1 ho).1
  have hs := tr.step i o ho
  have hfree := tr.free i (by omega) i (Nat.le_refl _) hi
  have hle0 := step_hle hs hw hfree
  have hfin : Hle (st p).H (fin base ops.size H0 (st p).H) := fun id B hB => ⟨B, by simp only [fin, hB], Same.refl B⟩
  have putv : ∀ {x : AV}, (st (i + 1)).τ = put (st i).τ o.dst x → o.dst.isSome = true → x = v := by
    intro x hx hd
    rw [hv] at hx
    obtain ⟨d, hd⟩ := Option.isSome_iff_exists.1 hd
    rw [hd] at hx
    have := congrFun hx d
    simp only [put, upd_same] at this
    exact this.symm
  obtain ⟨_, h⟩ := hs
  rcases h with ⟨hw', e⟩ | ⟨hw', ⟨hc, out, hout, e⟩ | ⟨f, args, H', r, hc, ⟨fr, ro, ds, rfl, hds, hac, hm, hone⟩, e⟩ | ⟨hg, _⟩⟩
  · exact ⟨.tup [], putv (by rw [e]; rfl), .inl ⟨hw', rfl⟩⟩
  · have hx : aop P o.op (opnd (st i).τ) (fin base ops.size H0 (st p).H) = some out := by
      rcases hq with hq | hq
      · rw [aop_pure hq _ (st i).H]; exact hout
      · exact aop_mono ((hle0.trans hq).trans hfin) hw hout
    cases out with
    | val x => exact ⟨x, putv (by rw [e]; rfl), .inr ⟨hw', .inl ⟨hc, .inl hx⟩⟩⟩
    | new b mv =>
      have hq' : Hle (st (i + 1)).H (st p).H := by
        rcases hq with hq | hq
        · exfalso
          cases ho' : o.op <;> rw [ho'] at hq hout <;> first
            | (simp [isPure] at hq; done)
            | (simp only [aop, mkFuncA] at hout; (repeat' split at hout) <;> (first | (simp at hout; done) | (rw [Option.map_eq_some_iff] at hout; obtain ⟨_, _, hout⟩ := hout; cases hout)))
            | (simp only [aop] at hout; (repeat' split at hout) <;> (first | (simp at hout; done) | (rw [Option.map_eq_some_iff] at hout; obtain ⟨_, _, hout⟩ := hout; cases hout)))
        · exact hq
      have hb : (st (i + 1)).H (base + i) = some { b with gen := genD H0 (base + i) } := by rw [e]; exact upd_same _ _ _
      obtain ⟨C, hC, hsame⟩ := (hq'.trans hfin) _ _ hb
      have hN : (st p).H (base + i) ≠ Option.none := by obtain ⟨D, hD, _⟩ := hq' _ _ hb; rw [hD]; simp
      exact ⟨mv (base + i) C.gen, putv (by rw [e, hsame.gen]; rfl), .inr ⟨hw', .inl ⟨hc, .inr ⟨b, mv, C, hx, hN, hC, hsame.sz, hsame.els, rfl⟩⟩⟩⟩
    | wr x id b => have := (wr_isWr hout).1; rw [hw] at this; cases this
  · have hnp : isPure o.op = false := by
      unfold callee at hc
      split at hc
      · rename_i c hoc; rw [hoc]; rfl
      · cases hc
    have hq' : Hle (st (i + 1)).H (st p).H := by
      rcases hq with hq | hq
      · rw [hnp] at hq; cases hq
      · exact hq
    have hH' : Hle (freeze fr (st i).H) (st (i + 1)).H := by
      rw [e]; unfold St.res; split
      · intro id B hB
        refine ⟨B, ?_, Same.refl B⟩
        simp only
        rw [upd_ne _ _ _ _ (by rintro rfl; rw [freeze_none hfree] at hB; cases hB)]; exact hB
      · exact Hle.refl _
    have hds' := dval_mono ((hH'.trans hq').trans hfin) hds
    cases hres : resB r with
    | none => exact ⟨r, putv (by rw [e]; unfold St.res; rw [hres]), .inr ⟨hw', .inr ⟨f, args, ds, r, ro, hc, hds', hac, hm, hone, .inl ⟨hres, rfl⟩⟩⟩⟩
    | some q =>
      have hb : (st (i + 1)).H (base + i) = some ⟨q.1, q.2, genD H0 (base + i), true⟩ := by rw [e]; unfold St.res; rw [hres]; exact upd_same _ _ _
      obtain ⟨C, hC, hsame⟩ := (hq'.trans hfin) _ _ hb
      have hN : (st p).H (base + i) ≠ Option.none := by obtain ⟨D, hD, _⟩ := hq' _ _ hb; rw [hD]; simp
      exact ⟨resV (base + i) C.gen r, putv (by rw [e, hsame.gen]; unfold St.res; rw [hres]; rfl), .inr ⟨hw', .inr ⟨f, args, ds, r, ro, hc, hds', hac, hm, hone, .inr ⟨q, C, hres, hN, hC, hsame.sz, hsame.els, rfl⟩⟩⟩⟩
  · cases hg
end
end Go.Ab

/- The main law on regions that draw their order. -/
namespace Go.Ab
open Go.RowKit
section
variable {P : Program} {A0 : Nat → Prop} {B0 nt : Nat} {w0 : Start} {w w' : World} {ι ι' : Plc} {a : Act} {ops : Array Oper} {H0 : Heap} {base : Nat} {st : Nat → St}

def In (listed : Array Bool) (i : Nat) : Prop := listed.getD i false = true

theorem in_set {listed : Array Bool} {i j : Nat} (hi : i < listed.size) : In (listed.setIfInBounds i true) j ↔ j = i ∨ In listed j := by
  unfold In
  simp only [Array.getD_eq_getD_getElem?]
  by_cases h : j = i
  · subst h
    simp [Array.getElem?_setIfInBounds_self_of_lt hi]
  · rw [Array.getElem?_setIfInBounds_ne (Ne.symm h)]
    simp [h]

theorem RelS.put' {S S' : Nat → Prop} {p p' : Nat} (h : RelS A0 B0 w0 nt ops base H0 st S p ι a w) {i : Nat} {o : Oper} (ho : ops[i]? = some o) (hd : (o.dst.all (· < nt)) = true) (hS : ∀ j, S' j ↔ j = i ∨ S j)
    {v v' : AV} (hv : (st (i + 1)).τ = Ab.put (st i).τ o.dst v) (hvv : o.dst.isSome = true → v' = v) {u : Value} (hev : Ev w ι (fin base ops.size H0 (st p).H) w' ι' (fin base ops.size H0 (st p').H))
    (hr : HR w' ι' (fin base ops.size H0 (st p').H) (Al A0 B0 w' ι' (fin base ops.size H0 (st p').H)) B0) (hu : VR w' ι' (fin base ops.size H0 (st p').H) (Al A0 B0 w' ι' (fin base ops.size H0 (st p').H)) v' u) (hb : Below B0 w w')
    (hsl : ∀ j, j < ops.size → (¬ S' j ∨ (st p').H (base + j) = none) → ι' (base + j) = none) (hready : ∀ e ∈ o.after.toList, Region.binds .any e = true → S e.on) :
    RelS A0 B0 w0 nt ops base H0 st S' p' ι' (a.put o.dst u) w' := by
  have htmp : ∀ t, o.dst ≠ some t → (a.put o.dst u).tmps.getD t undef = a.tmps.getD t undef := by
    intro t ht
    cases hdd : o.dst with
    | none => rfl
    | some d =>
      rw [hdd] at ht hd
      simp at hd
      have := h.sz
      simp only [Act.put]
      rw [getD_set _ _ _ _ (by omega), if_neg (by rintro rfl; exact ht rfl)]
  refine ⟨fun t => ?_, ?_, hr, ?_, h.bl.trans hb, h.le, h.ev.trans hev, hsl, fun j x hx hj e he hbe => ?_⟩
  · by_cases hdt : o.dst = some t
    · refine .inl ⟨i, o, ho, (hS i).2 (.inl rfl), hdt, ?_⟩
      have := hvv (by rw [hdt]; rfl)
      subst this
      rw [hv, hdt]
      rw [hdt] at hd
      simp at hd
      have := h.sz
      simp only [Ab.put, upd_same, Act.put]
      rw [getD_set _ _ _ _ (by omega), if_pos rfl]
      exact hu
    · rw [htmp t hdt]
      rcases h.tm t with ⟨j, x, hx, hj, hdx, hvr⟩ | ⟨hno, hvr⟩
      · exact .inl ⟨j, x, hx, (hS j).2 (.inr hj), hdx, hvr.ev hev⟩
      · refine .inr ⟨fun j x hx hj => ?_, hvr.ev hev⟩
        rcases (hS j).1 hj with rfl | hj
        · rw [ho] at hx; cases hx; exact hdt
        · exact hno j x hx hj
  · have := h.sz
    cases hdd : o.dst <;> simp [Act.put, this]
  · have := h.df
    cases hdd : o.dst <;> simp [Act.put, this]
  · rcases (hS j).1 hj with rfl | hj
    · rw [ho] at hx; cases hx
      exact (hS _).2 (.inr (hready e he hbe))
    · exact (hS _).2 (.inr (h.cl j x hx hj e he hbe))

theorem RelS.put {S S' : Nat → Prop} {p : Nat} (h : RelS A0 B0 w0 nt ops base H0 st S p ι a w) {i : Nat} {o : Oper} (ho : ops[i]? = some o) (hd : (o.dst.all (· < nt)) = true) (hS : ∀ j, S' j ↔ j = i ∨ S j)
    {v v' : AV} (hv : (st (i + 1)).τ = Ab.put (st i).τ o.dst v) (hvv : o.dst.isSome = true → v' = v) {u : Value} (hev : Ev w ι (fin base ops.size H0 (st p).H) w' ι' (fin base ops.size H0 (st p).H))
    (hr : HR w' ι' (fin base ops.size H0 (st p).H) (Al A0 B0 w' ι' (fin base ops.size H0 (st p).H)) B0) (hu : VR w' ι' (fin base ops.size H0 (st p).H) (Al A0 B0 w' ι' (fin base ops.size H0 (st p).H)) v' u) (hb : Below B0 w w')
    (hι : ∀ j, j ≠ base + i → ι' j = ι j) (hN : (st p).H (base + i) = none → ι' (base + i) = none) (hready : ∀ e ∈ o.after.toList, Region.binds .any e = true → S e.on) :
    RelS A0 B0 w0 nt ops base H0 st S' p ι' (a.put o.dst u) w' := by
  refine h.put' ho hd hS hv hvv hev hr hu hb (fun j hj hc => ?_) hready
  by_cases hji : j = i
  · subst hji
    rcases hc with hc | hc
    · exact absurd ((hS j).2 (.inl rfl)) hc
    · exact hN hc
  · rw [hι _ (by omega)]
    exact h.slots j hj (hc.imp (fun hc hj' => hc ((hS j).2 (.inr hj'))) id)

/-- The heap before k taken for the heap before a later p', nothing but additions between. -/
theorem RelS.goto {S : Nat → Prop} {p d : Nat} (h : RelS A0 B0 w0 nt ops base H0 st S p ι a w) (tr : Trace P nt H0 ops base st) (hk : p + d ≤ ops.size) (hq : Hle (st p).H (st (p + d)).H) : RelS A0 B0 w0 nt ops base H0 st S (p + d) ι a w := by
  obtain ⟨g1, g2⟩ := tr.grow hk hq (fun i hi hn => h.slots i hi (.inr hn))
  obtain ⟨e1, e2⟩ := grow_ok h.hr g1 g2
  refine ⟨fun t => ?_, h.sz, e2, h.df, h.bl, h.le, h.ev.trans e1, fun i hi hc => ?_, h.cl⟩
  · rcases h.tm t with ⟨i, o, ho, hi, hd, hv⟩ | ⟨hn, hv⟩
    · exact .inl ⟨i, o, ho, hi, hd, hv.ev e1⟩
    · exact .inr ⟨hn, hv.ev e1⟩
  · rcases hc with hc | hc
    · exact h.slots i hi (.inl hc)
    · refine h.slots i hi (.inr ?_)
      cases hs : (st p).H (base + i) with
      | none => rfl
      | some B => obtain ⟨C, hC, _⟩ := hq _ B hs; rw [hC] at hc; cases hc

theorem pure_val {o : Op} {ρ : Operand → AV} {H : Heap} {out : Out} (hp : isPure o = true) (h : aop P o ρ H = some out) : ∃ v, out = .val v := by
  cases o <;> first
    | (simp [isPure] at hp; done)
    | (simp only [aop, mkFuncA] at h; (repeat' split at h) <;> (first | (simp at h; done) | (rw [Option.map_eq_some_iff] at h; obtain ⟨_, _, rfl⟩ := h; exact ⟨_, rfl⟩) | (simp at h; exact ⟨_, h.symm⟩)))
    | (simp only [aop] at h; (repeat' split at h) <;> (first | (simp at h; done) | (rw [Option.map_eq_some_iff] at h; obtain ⟨_, _, rfl⟩ := h; exact ⟨_, rfl⟩) | (simp at h; exact ⟨_, h.symm⟩)))

theorem Trace.pure_free (tr : Trace P nt H0 ops base st) {j : Nat} {x : Oper} (hx : ops[j]? = some x) (hp : isPure x.op = true) : ∀ (k : Nat), k ≤ ops.size → (st k).H (base + j) = none := by
  have hj := (Array.getElem?_eq_some_iff.1 hx).1
  intro k
  induction k with
  | zero => intro h; exact tr.free 0 h j (Nat.zero_le _) hj
  | succ k ih =>
    intro hk
    have ih := ih (by omega)
    have ho : ops[k]? = some ops[k] := by simp [show k < ops.size by omega]
    by_cases hkj : k = j
    · subst hkj
      rw [hx] at ho
      cases ho
      obtain ⟨_, h⟩ := tr.step k _ hx
      rcases h with ⟨_, e⟩ | ⟨_, ⟨_, out, hout, e⟩ | ⟨f, args, H', r, hc, _, _⟩ | ⟨hg, _⟩⟩
      · rw [e]; exact ih
      · obtain ⟨v, rfl⟩ := pure_val hp hout
        rw [e]; exact ih
      · exfalso
        unfold callee at hc
        split at hc
        · rename_i c hoc; rw [hoc] at hp; simp [isPure] at hp
        · cases hc
      · cases hg
    · exact step_none (tr.step k _ ho) (by omega) ih

theorem ops_vr {Hx : Heap} {o : Oper} {τ : Nat → AV} (htm : ∀ t ∈ o.looksAt ops, VR w ι Hx (Al A0 B0 w ι Hx) (τ t) (a.tmps.getD t undef)) :
    ∃ ρ : Operand → AV, (∀ x, VR w ι Hx (Al A0 B0 w ι Hx) (ρ x) (a.eval x)) ∧ (∀ H, aop P o.op ρ H = aop P o.op (opnd τ) H) ∧ ∀ b, wantedA ops τ o = some b → Region.wanted o (yielded ops a.tmps) = b := by
  classical
  let τ' : Nat → AV := fun t => if t ∈ o.looksAt ops then τ t else .undef
  have hag : ∀ t ∈ o.looksAt ops, τ t = τ' t := fun t ht => by simp [τ', ht]
  have htm' : ∀ t, VR w ι Hx (Al A0 B0 w ι Hx) (τ' t) (a.tmps.getD t undef) := by
    intro t
    by_cases ht : t ∈ o.looksAt ops
    · simp only [τ', ht, if_true]; exact htm t ht
    · simp only [τ', ht, if_false]; exact .data _ _ (.undef _)
  refine ⟨opnd τ', fun x => ?_, fun H => (aop_congr (opnd_agree hag)).symm, fun b hb => ?_⟩
  · cases x with
    | tmp t => exact htm' t
    | const v => exact .data _ _ (DR.const v)
    | global g => exact .data _ _ (.undef _)
    | func f => exact .data _ _ (.func f [] #[] rfl (by simp))
  · rw [wantedA_congr hag] at hb
    exact wanted_sound (s := ⟨τ', Hx, 0⟩) htm' hb

theorem next_wr (S : Nat → Prop) : ∀ (d m : Nat), m + d = ops.size → ∃ p, m ≤ p ∧ p ≤ ops.size ∧ (∀ (o : Oper), ops[p]? = some o → isWr o.op = true ∧ ¬ S p) ∧ ∀ (k : Nat) (o : Oper), m ≤ k → k < p → ops[k]? = some o → isWr o.op = true → S k := by
  intro d
  induction d with
  | zero => intro m hm; exact ⟨m, Nat.le_refl _, by omega, fun o ho => by have := (Array.getElem?_eq_some_iff.1 ho).1; omega, fun k o h1 h2 => by omega⟩
  | succ d ih =>
    intro m hm
    have hlt : m < ops.size := by omega
    by_cases hw : isWr ops[m].op = true ∧ ¬ S m
    · exact ⟨m, Nat.le_refl _, by omega, fun o ho => by simp [hlt] at ho; subst ho; exact hw, fun k o h1 h2 => by omega⟩
    · obtain ⟨p, h1, h2, h3, h4⟩ := ih (m + 1) (by omega)
      refine ⟨p, by omega, h2, h3, fun k o hk1 hk2 ho hwk => ?_⟩
      by_cases hkm : k = m
      · subst hkm
        simp [hlt] at ho; subst ho
        exact Classical.byContradiction fun hn => hw ⟨hwk, hn⟩
      · exact h4 k o (by omega) hk2 ho hwk

theorem count_set {l : List Bool} {i : Nat} (h : l[i]? = some false) : (l.set i true).count false + 1 = l.count false := by
  induction l generalizing i with
  | nil => simp at h
  | cons b l ih =>
    cases i with
    | zero => simp at h; subst h; simp
    | succ i => simp at h; simp only [List.set_cons_succ, List.count_cons]; have := ih h; omega

theorem draw_main (hok : drawOk ops = true) (tr : Trace P nt H0 ops base st) {Q : Exit → Act → World → Prop}
    (hQ : ∀ ι a w, Rel A0 B0 w0 nt { st ops.size with H := fin base ops.size H0 (st ops.size).H } ι a w → Q .normal a w) :
    ∀ (fuel : Nat) (listed : Array Bool) (p : Nat) (ι : Plc) (a : Act) (w : World), listed.size = ops.size → listed.toList.count false = fuel → AtW ops (In listed) p → RelS A0 B0 w0 nt ops base H0 st (In listed) p ι a w →
      wpAny P .any ops Q fuel listed a w := by
  have done : ∀ (listed : Array Bool) (p : Nat) (ι : Plc) (a : Act) (w : World), listed.size = ops.size → AtW ops (In listed) p → RelS A0 B0 w0 nt ops base H0 st (In listed) p ι a w → (∀ i, i < ops.size → In listed i) → Q .normal a w := by
    intro listed p ι a w hsz hat hr hall
    have hp : p = ops.size := by
      rcases Nat.lt_or_ge p ops.size with h | h
      · exact absurd (hall p h) (hat.wr ops[p] (by simp [h])).2
      · exact Nat.le_antisymm hat.le h
    subst hp
    refine hQ ι a w ⟨fun t => ?_, hr.sz, hr.hr, hr.df, hr.bl, hr.le, hr.ev⟩
    obtain ⟨t1, t2⟩ := tr.tau hok t ops.size (Nat.le_refl _)
    rcases hr.tm t with ⟨i, o, ho, hi, hd, hv⟩ | ⟨hn, hv⟩
    · simp only [t1 i o (Array.getElem?_eq_some_iff.1 ho).1 ho hd]; exact hv
    · simp only [t2 fun j o hj ho => hn j o ho (hall j hj)]; exact hv
  have noReady : ∀ (listed : Array Bool), listed.size = ops.size → Region.ready .any ops listed = [] → ∀ i, i < ops.size → In listed i := by
    intro listed hsz hno i
    induction i using Nat.strongRecOn with
    | _ i ih =>
      intro hi
      refine Classical.byContradiction fun hn => ?_
      have : i ∈ Region.ready .any ops listed := by
        rw [mem_ready]
        refine ⟨?_, ops[i], by simp [hi], fun e he hb => ?_⟩
        · unfold In at hn
          rw [Array.getD_eq_getD_getElem?] at hn ⊢
          cases hx : listed[i]? with
          | none => have := Array.getElem?_eq_none_iff.1 hx; omega
          | some b => rw [hx] at hn; cases b <;> simp_all
        · have hlt := drawOk_edge hok (show ops[i]? = some ops[i] by simp [hi]) e (by simpa using he) hb
          exact ih e.on hlt (by omega)
      rw [hno] at this
      cases this
  intro fuel
  induction fuel with
  | zero =>
    intro listed p ι a w hsz hc hat hr
    have hall : ∀ i, i < ops.size → In listed i := by
      intro i hi
      have hm : false ∉ listed.toList := List.count_eq_zero.1 hc
      unfold In
      rw [Array.getD_eq_getD_getElem?, Array.getElem?_eq_getElem (by omega)]
      simp only [Option.getD_some]
      cases hx : listed[i]'(by omega) with
      | true => rfl
      | false => exact absurd (by rw [← hx]; simp) hm
    refine ⟨?_, done listed p ι a w hsz hat hr hall⟩
    apply List.eq_nil_iff_forall_not_mem.2
    intro i hi
    rw [mem_ready] at hi
    obtain ⟨h2, o, ho, _⟩ := hi
    have h1 := (Array.getElem?_eq_some_iff.1 ho).1
    have := hall i h1
    unfold In at this
    rw [Array.getD_eq_getD_getElem?] at this h2
    cases hx : listed[i]? with
    | none => rw [hx] at this; simp at this
    | some b => rw [hx] at this h2; simp at this h2; simp_all
  | succ fuel ih =>
    intro listed p ι a w hsz hc hat hr
    refine ⟨fun hno => done listed p ι a w hsz hat hr (noReady listed hsz hno), fun i hi => ?_⟩
    rw [mem_ready] at hi
    obtain ⟨hli, o, ho, hedges⟩ := hi
    have hin := (Array.getElem?_eq_some_iff.1 ho).1
    have hni : ¬ In listed i := by
      unfold In
      rw [Array.getD_eq_getD_getElem?] at hli ⊢
      cases hx : listed[i]? with
      | none => simp
      | some b => rw [hx] at hli; simp at hli; subst hli; simp
    have hready : ∀ e ∈ o.after.toList, Region.binds .any e = true → In listed e.on := by
      intro e he hb
      exact hedges e (by simpa using he) hb
    have hanc : ∀ j, ((masks ops.toList []).getD i 0).testBit j = true → In listed j :=
      anc_sound (fun k x hx => drawOk_edge hok hx) hr.cl i o ho hready
    have hsz' : (listed.setIfInBounds i true).size = ops.size := by simpa using hsz
    have hS : ∀ j, In (listed.setIfInBounds i true) j ↔ j = i ∨ In listed j := fun j => in_set (by omega)
    have hcnt : (listed.setIfInBounds i true).toList.count false = fuel := by
      have hx : listed.toList[i]? = some false := by
        rw [Array.getElem?_toList]
        rw [Array.getD_eq_getD_getElem?] at hli
        cases hx : listed[i]? with
        | none => have := Array.getElem?_eq_none_iff.1 hx; omega
        | some b => rw [hx] at hli; simp at hli; rw [hli]
      have := count_set hx
      rw [Array.toList_setIfInBounds]
      omega
    have hd : (o.dst.all (· < nt)) = true := (tr.step i o ho).1
    obtain ⟨v, hv⟩ := step_put (tr.step i o ho)
    -- operands
    have htm : ∀ t ∈ o.looksAt ops, VR w ι (fin base ops.size H0 (st p).H) (Al A0 B0 w ι (fin base ops.size H0 (st p).H)) ((st i).τ t) (a.tmps.getD t undef) := by
      intro t ht
      obtain ⟨t1, t2⟩ := tr.tau hok t i (by omega)
      rcases hr.tm t with ⟨j, x, hx, hj, hdx, hvr⟩ | ⟨hno, hvr⟩
      · rcases Nat.lt_trichotomy j i with h | h | h
        · rw [t1 j x h hx hdx]; exact hvr
        · subst h; exact absurd hj hni
        · exfalso
          rcases drawOk_pair hok ho hx h with hb | hap
          · exact hni (anc_sound (fun k x hx => drawOk_edge hok hx) hr.cl j x hx (hr.cl j x hx hj) i hb)
          · exact (apart_spec hap).2.1 t hdx ht
      · rw [t2 fun j x hj hx hdx => ?_]
        · exact hvr
        · rcases drawOk_pair hok hx ho hj with hb | hap
          · exact hno j x hx (hanc j hb) hdx
          · exact (apart_spec hap).1 t hdx ht
    simp only [wpOp, ho]
    by_cases hw : isWr o.op = true
    · -- the next writing operation
      have hnp : isPure o.op = false := by cases h : o.op <;> rw [h] at hw <;> first | rfl | (simp [isWr] at hw)
      have hip : i = p := by
        rcases Nat.lt_trichotomy i p with h | h | h
        · exact absurd (hat.before i o h ho hw) hni
        · exact h
        · exfalso
          have hpn : p < ops.size := by omega
          have hpo : ops[p]? = some ops[p] := by simp [hpn]
          obtain ⟨h1, h2⟩ := hat.wr _ hpo
          rcases drawOk_pair hok hpo ho h with hb | hap
          · exact h2 (hanc p hb)
          · have := (apart_spec hap).2.2.1 h1; rw [hnp] at this; cases this
      subst hip
      obtain ⟨p', hp1, hp2, hp3, hp4⟩ := next_wr (ops := ops) (In (listed.setIfInBounds i true)) (ops.size - (i + 1)) (i + 1) (by omega)
      have hbetween : ∀ (k : Nat) (x : Oper), i + 1 ≤ k → k < p' → ops[k]? = some x → isWr x.op = false := by
        intro k x h1 h2 hx
        cases hwx : isWr x.op with
        | false => rfl
        | true =>
          exfalso
          have hk := (hS k).1 (hp4 k x h1 h2 hx hwx)
          rcases hk with rfl | hk
          · omega
          · rcases drawOk_pair hok ho hx (by omega) with hb | hap
            · exact hni (anc_sound (fun k x hx => drawOk_edge hok hx) hr.cl k x hx (hr.cl k x hx hk) i hb)
            · have := (apart_spec hap).2.2.2 hwx; rw [hnp] at this; cases this
      have hle1 : Hle (st (i + 1)).H (st p').H := by
        have := tr.hle (p' - (i + 1)) (i + 1) (by omega) (fun j x h1 h2 hx => hbetween j x h1 (by omega) hx)
        rwa [show i + 1 + (p' - (i + 1)) = p' by omega] at this
      have hat' : AtW ops (In (listed.setIfInBounds i true)) p' := by
        refine ⟨hp2, hp3, fun k x hk hx hwx => ?_⟩
        rcases Nat.lt_trichotomy k i with h | h | h
        · exact (hS k).2 (.inr (hat.before k x h hx hwx))
        · exact (hS k).2 (.inl h)
        · exact hp4 k x (by omega) hk hx hwx
      have hcal : ∀ τ, callee o.op τ = none := by
        intro τ
        unfold callee
        split
        · rename_i c hoc
          rw [hoc] at hw
          obtain ⟨cal, args, ts⟩ := c
          cases cal <;> first | rfl | (simp [isWr] at hw)
        · rfl
      have hext : ∀ id B, (st i).H id = some B → fin base ops.size H0 (st i).H id = some B := fun id B h => by simp only [fin, h]
      obtain ⟨_, hstep⟩ := tr.step i o ho
      -- nothing turned: skipped, or a value alone
      have quiet : ∀ v', (o.dst.isSome = true → v' = v) → (st (i + 1)).H = (st i).H → QD P False ops (base + i) o (st i).τ (fin base ops.size H0 (st i).H) v' →
          if Region.wanted o (yielded ops a.tmps) then o.wp P a w (wpAny P .any ops Q fuel (listed.setIfInBounds i true)) Q ∨ (o.asks P a w ∧ LetsOut Q) else wpAny P .any ops Q fuel (listed.setIfInBounds i true) (a.put o.dst undef) w := by
        intro v' hv' heq hqd
        have := exec_q hr.hr (Nat.le_trans hr.le hr.bl.size) (hr.slots i hin (.inl hni)) htm hqd (K := wpAny P .any ops Q fuel (listed.setIfInBounds i true)) (Q := Q) (fun u w' ι' e1 e2 e3 e4 e5 e6 => by
          have r1 := hr.put ho hd hS hv hv' e1 e2 e3 e4 e5 (fun _ => e6 (fun h => h)) hready
          have r2 := r1.goto (d := p' - i) tr (by omega) (by rw [show i + (p' - i) = p' by omega, ← heq]; exact hle1)
          rw [show i + (p' - i) = p' by omega] at r2
          exact ih _ p' ι' _ _ hsz' hcnt hat' r2)
        split at this
        · rename_i h; rw [if_pos h]; exact .inl this
        · rename_i h; rw [if_neg h]; exact this
      rcases hstep with ⟨hw', e⟩ | ⟨hw', ⟨_, out, hout, e⟩ | ⟨f, args, H', r, hc', _⟩ | ⟨hg, _⟩⟩
      · refine quiet (.tup []) (fun hs => ?_) (by rw [e]; rfl) (.inl ⟨hw', rfl⟩)
        rw [e] at hv
        obtain ⟨d, hdd⟩ := Option.isSome_iff_exists.1 hs
        have := congrFun hv d
        rw [hdd] at this
        simpa [St.set, Ab.put, upd_same] using this
      · have hx := aop_ext hext hout
        have putv : ∀ x, (st (i + 1)).τ = Ab.put (st i).τ o.dst x → o.dst.isSome = true → x = v := by
          intro x hx hs
          rw [hv] at hx
          obtain ⟨d, hdd⟩ := Option.isSome_iff_exists.1 hs
          have := congrFun hx d
          rw [hdd] at this
          simp only [Ab.put, upd_same] at this
          exact this.symm
        cases out with
        | val x => exact quiet x (putv x (by rw [e]; rfl)) (by rw [e]; rfl) (.inr ⟨hw', .inl ⟨hcal _, .inl hx⟩⟩)
        | new b mv =>
          have hi1 : (st (i + 1)).H = upd (st i).H (base + i) (some { b with gen := genD H0 (base + i) }) := by rw [e]; rfl
          have hfree := tr.free i (by omega) i (Nat.le_refl _) hin
          have hle0 : Hle (st i).H (st (i + 1)).H := by
            rw [hi1]
            intro id B hB
            refine ⟨B, ?_, Same.refl B⟩
            rw [upd_ne _ _ _ _ (by rintro rfl; rw [hfree] at hB; cases hB)]; exact hB
          have hle2 : Hle (st i).H (st (i + (p' - i))).H := by rw [show i + (p' - i) = p' by omega]; exact hle0.trans hle1
          obtain ⟨g1, g2⟩ := tr.grow (d := p' - i) (by omega) hle2 (fun j hj hn => hr.slots j hj (.inr hn))
          obtain ⟨q1, q2⟩ := grow_ok hr.hr g1 g2
          rw [show i + (p' - i) = p' by omega] at q1 q2
          obtain ⟨ρ, hρ1, hρ2, hρ3⟩ := ops_vr (P := P) htm
          rw [hρ3 true hw', if_pos rfl]
          left
          unfold Oper.wp
          rw [← hρ2] at hx
          obtain ⟨u, w', h1, h2⟩ := aop_new (P := P) hr.hr hρ1 o hx
          rw [h1]
          obtain ⟨C, hC, hsame⟩ := hle1 (base + i) _ (by rw [hi1]; exact upd_same _ _ _)
          obtain ⟨L, r1, r2, r3, r4⟩ := new_at q2 (Nat.le_trans hr.le hr.bl.size) (h2.ev q1) (id := base + i) (B := C) (by simp only [fin, hC]) hsame.sz hsame.els (hr.slots i hin (.inl hni))
          rw [hsame.gen] at r3
          refine ih _ p' _ _ _ hsz' hcnt hat' (hr.put' ho hd hS hv (putv _ (by rw [e]; rfl)) (q1.trans r1) r2 r3 (r4.mono (Nat.le_trans hr.le hr.bl.size)) (fun j hj hc => ?_) hready)
          by_cases hji : j = i
          · subst hji
            rcases hc with hc | hc
            · exact absurd ((hS j).2 (.inl rfl)) hc
            · rw [hC] at hc; cases hc
          · rw [upd_ne _ _ _ _ (by omega)]
            refine hr.slots j hj (hc.imp (fun hc hj' => hc ((hS j).2 (.inr hj'))) fun hc => ?_)
            cases hs : (st i).H (base + j) with
            | none => rfl
            | some B =>
              obtain ⟨D, hD, _⟩ := (hle0.trans hle1) _ B hs
              rw [hD] at hc; cases hc
        | wr x id b =>
          have hi1 : (st (i + 1)).H = upd (st i).H id (some b) := by rw [e]; rfl
          have hfin : fin base ops.size H0 (st (i + 1)).H = upd (fin base ops.size H0 (st i).H) id (some b) := by
            rw [hi1]
            funext j
            simp only [fin, upd]
            split
            · rename_i h; split at h
              · rename_i hj; cases h; simp [hj]
              · rename_i hj; simp [hj, h]
            · rename_i h; split at h
              · cases h
              · rename_i hj; simp [hj, h]
          obtain ⟨ρ, hρ1, hρ2, hρ3⟩ := ops_vr (P := P) htm
          rw [hρ3 true hw', if_pos rfl]
          left
          unfold Oper.wp
          rw [← hρ2] at hx
          obtain ⟨nx, u, w', h1, h2, ι1, r1, r2, r3, r4, r5⟩ := aop_wr (P := P) hr.hr (Nat.le_trans hr.le hr.bl.size) hρ1 o hx
          rw [← hfin] at r1 r2 r3
          have halive : ∃ B, (st i).H id = some B := by obtain ⟨_, B, hB, _⟩ := wr_isWr hout; exact ⟨B, hB⟩
          have hle2 : Hle (st (i + 1)).H (st (i + 1 + (p' - (i + 1)))).H := by rw [show i + 1 + (p' - (i + 1)) = p' by omega]; exact hle1
          have hslot : ∀ j, j < ops.size → (¬ In listed j ∧ j ≠ i ∨ (st (i + 1)).H (base + j) = none) → ι1 (base + j) = none := by
            intro j hj hc
            have hne : base + j ≠ id := by
              rintro rfl
              rcases hc with ⟨hc, hji⟩ | hc
              · obtain ⟨B, hB⟩ := halive
                rcases Nat.lt_or_ge j i with h | h
                · have hjo : ops[j]? = some ops[j] := by simp [hj]
                  rcases drawOk_pair hok hjo ho h with hb | hap
                  · exact hc (hanc j hb)
                  · rw [tr.pure_free hjo ((apart_spec hap).2.2.2 hw) i (by omega)] at hB; cases hB
                · rw [tr.free i (by omega) j h hj] at hB; cases hB
              · rw [hi1, upd_same] at hc; cases hc
            rw [r5 _ hne]
            refine hr.slots j hj (hc.imp (fun h => h.1) fun hc => ?_)
            rw [hi1, upd_ne _ _ _ _ hne] at hc; exact hc
          obtain ⟨g1, g2⟩ := tr.grow (ι := ι1) (d := p' - (i + 1)) (by omega) hle2 (fun j hj hn => hslot j hj (.inr hn))
          obtain ⟨q1, q2⟩ := grow_ok r2 g1 g2
          rw [show i + 1 + (p' - (i + 1)) = p' by omega] at q1 q2
          have hrel := hr.put' ho hd hS hv (putv _ (by rw [e]; rfl)) (r1.trans q1) q2 (r3.ev q1) r4 (fun j hj hc => by
            refine hslot j hj ?_
            rcases hc with hc | hc
            · exact .inl ⟨fun h => hc ((hS j).2 (.inr h)), fun h => hc ((hS j).2 (.inl h))⟩
            · right
              cases hs : (st (i + 1)).H (base + j) with
              | none => rfl
              | some B => obtain ⟨D, hD, _⟩ := hle1 _ B hs; rw [hD] at hc; cases hc) hready
          rw [h1]
          rcases h2 with rfl | ⟨rfl, rfl⟩
          · exact ih _ p' _ _ _ hsz' hcnt hat' hrel
          · exact ih _ p' _ _ _ hsz' hcnt hat' hrel
      · rw [hcal] at hc'; cases hc'
      · cases hg
    · -- nothing is written
      have hw' : isWr o.op = false := by simpa using hw
      have hq : isPure o.op = true ∨ Hle (st (i + 1)).H (st p).H := by
        cases hp : isPure o.op with
        | true => exact .inl rfl
        | false =>
          right
          have hip : i < p := by
            rcases Nat.lt_trichotomy i p with h | h | h
            · exact h
            · subst h; have := (hat.wr o ho).1; rw [hw'] at this; cases this
            · exfalso
              have hpo : ops[p]? = some ops[p] := by simp [show p < ops.size by omega]
              obtain ⟨h1, h2⟩ := hat.wr _ hpo
              rcases drawOk_pair hok hpo ho h with hb | hap
              · exact h2 (hanc p hb)
              · have := (apart_spec hap).2.2.1 h1; rw [hp] at this; cases this
          have := tr.hle (p - (i + 1)) (i + 1) (by have := hat.le; omega) (fun j x h1 h2 hx => by
            cases hwx : isWr x.op with
            | false => rfl
            | true =>
              exfalso
              have hk := hat.before j x (by omega) hx hwx
              rcases drawOk_pair hok ho hx (by omega) with hb | hap
              · exact hni (anc_sound (fun k x hx => drawOk_edge hok hx) hr.cl j x hx (hr.cl j x hx hk) i hb)
              · have := (apart_spec hap).2.2.2 hwx; rw [hp] at this; cases this)
          rwa [show i + 1 + (p - (i + 1)) = p by omega] at this
      obtain ⟨v', hv', hqd⟩ := tr.qd ho hw' hq hv
      have hat' : AtW ops (In (listed.setIfInBounds i true)) p := by
        refine ⟨hat.le, fun x hx => ⟨(hat.wr x hx).1, fun h => ?_⟩, fun k x hk hx hwx => (hS k).2 (.inr (hat.before k x hk hx hwx))⟩
        rcases (hS p).1 h with rfl | h
        · rw [ho] at hx; cases hx; have := (hat.wr o ho).1; rw [hw'] at this; cases this
        · exact (hat.wr x hx).2 h
      have := exec_q hr.hr (Nat.le_trans hr.le hr.bl.size) (hr.slots i hin (.inl hni)) htm hqd (K := wpAny P .any ops Q fuel (listed.setIfInBounds i true)) (Q := Q) (fun u w' ι' e1 e2 e3 e4 e5 e6 =>
        ih _ p ι' _ _ hsz' hcnt hat' (hr.put ho hd hS hv hv' e1 e2 e3 e4 e5 (fun hn => e6 (fun h => h hn)) hready))
      split at this
      · rename_i h; rw [if_pos h]; exact .inl this
      · rename_i h; rw [if_neg h]; exact this
end
end Go.Ab

/- Code; the rule for contracts. -/
namespace Go.Ab
open Go.RowKit

/-- A step that the machine doesn't make: the state is told in another way. -/
def Ghost (s s' : St) : Prop := ∀ A0 B0 w0 nt ι a w, Rel A0 B0 w0 nt s ι a w → ∃ ι', Rel A0 B0 w0 nt s' ι' a w
theorem Ghost.refl (s : St) : Ghost s s := fun _ _ _ _ ι _ _ h => ⟨ι, h⟩
theorem Ghost.trans {s t u : St} (h : Ghost s t) (k : Ghost t u) : Ghost s u := fun A0 B0 w0 nt ι a w hr => by
  obtain ⟨ι', h'⟩ := h A0 B0 w0 nt ι a w hr
  exact k A0 B0 w0 nt ι' a w h'

def thenA (K : St → Prop) (Q : Exit → St → Prop) : Exit → St → Prop
  | .normal, s => K s
  | e, s => Q e s
def inBlockA (id : Nat) (Q : Exit → St → Prop) : Exit → St → Prop
  | .exit id', s => if id' = id then Q .normal s else Q (.exit id') s
  | e, s => Q e s

def awp (P : Program) (nt : Nat) : Code → (Exit → St → Prop) → St → Prop
  | .skip, Q, s => Q .normal s
  | .label _, Q, s => Q .normal s
  | .ret, Q, s => Q .ret s
  | .exit id, Q, s => Q (.exit id) s
  | .seq x y, Q, s => awp P nt x (thenA (awp P nt y Q) Q) s
  | .cond c x y, Q, s => match opnd s.τ c with
    | .bool t => if t = true then awp P nt x Q s else awp P nt y Q s
    | _ => False
  | .block id c, Q, s => awp P nt c (inBlockA id Q) s
  | .loop c, Q, s => ∃ s', Ghost s s' ∧ ∃ (I : Nat → St → Prop) (n : Nat), I n s' ∧ ∀ n s, I n s → awp P nt c (thenA (fun s' => ∃ m, m < n ∧ I m s') Q) s
  | .region id ops draw, Q, s => ∃ s', Ghost s s' ∧
    if draw = true then drawOk ops = true ∧ awpOps P nt (some (genD s'.H)) ops (s'.nx + id * 1000) (fun t => Q .normal { t with H := fin (s'.nx + id * 1000) ops.size s'.H t.H }) 0 ops.toList { s' with H := clr (s'.nx + id * 1000) ops.size s'.H }
    else awpOps P nt none ops (s'.nx + id * 1000) (Q .normal) 0 ops.toList s'
  | _, _, _ => False

section
variable {P : Program} {A0 : Nat → Prop} {B0 nt : Nat} {w0 : Start} {w w' : World} {ι ι' : Plc} {a : Act}

def QQ (A0 : Nat → Prop) (B0 : Nat) (w0 : Start) (nt : Nat) (Q : Exit → St → Prop) : Exit → Act → World → Prop := fun e a w => ∃ s ι, Q e s ∧ Rel A0 B0 w0 nt s ι a w

theorem Rel.heap {s : St} (h : Rel A0 B0 w0 nt s ι a w) (e : w'.heap = w.heap) (hb : Below B0 w w') : Rel A0 B0 w0 nt s ι a w' :=
  ⟨fun t => (h.tm t).heap e, h.sz, h.hr.heap e, h.df, h.bl.trans hb, h.le, h.ev.trans (Ev.heap e)⟩

theorem draw_sound (hm : P.follows .mixedOrders = true) {id : Nat} {ops : Array Oper} {Q : Exit → St → Prop} {s : St} (hok : drawOk ops = true)
    (h : awpOps P nt (some (genD s.H)) ops (s.nx + id * 1000) (fun t => Q .normal { t with H := fin (s.nx + id * 1000) ops.size s.H t.H }) 0 ops.toList { s with H := clr (s.nx + id * 1000) ops.size s.H }) (hr : Rel A0 B0 w0 nt s ι a w) :
    (Code.region id ops true).wp P (QQ A0 B0 w0 nt Q) a w := by
  refine wp_region_any hm ?_
  have hr : Rel A0 B0 w0 nt s ι a { w with drawn := w.drawn + 1 } := hr.heap rfl ⟨rfl, rfl, rfl, Nat.le_refl _, fun _ _ => rfl⟩
  generalize hw : ({ w with drawn := w.drawn + 1 } : World) = w1 at *
  clear hw
  generalize hbase : s.nx + id * 1000 = base at *
  obtain ⟨st, e1, e2, e3⟩ := trace_of (ops := ops) ops.size 0 _ (by omega) (by simpa using h)
  have tr : Trace P nt s.H ops base st := ⟨fun i o ho => e2 i o (Nat.zero_le _) ho, by rw [e1]⟩
  obtain ⟨p, _, hp2, hp3, hp4⟩ := next_wr (ops := ops) (In (Array.replicate ops.size false)) ops.size 0 (by omega)
  have hno : ∀ i, ¬ In (Array.replicate ops.size false) i := by
    intro i
    unfold In
    rw [Array.getD_eq_getD_getElem?, Array.getElem?_replicate]
    split <;> simp
  have hle : Hle (st 0).H (st p).H := by
    have := tr.hle p 0 (by omega) (fun j o _ h2 ho => by
      cases hw : isWr o.op with
      | false => rfl
      | true => exact absurd (hp4 j o (Nat.zero_le _) (by omega) ho hw) (hno j))
    simpa using this
  let ι0 : Plc := fun i => if inR base ops.size i then none else ι i
  have hout : ∀ i, inR base ops.size i = false → ι0 i = ι i := fun i h => by simp [ι0, h]
  obtain ⟨q1, q2⟩ := grow_ok (ι' := ι0) (H2 := fin base ops.size s.H (st p).H) hr.hr (fun i B hB => by
    cases hi : inR base ops.size i with
    | true =>
      cases hs : (st p).H i with
      | some C =>
        refine ⟨C, by simp only [fin, hs], .inr ?_⟩
        obtain ⟨j, hj, rfl⟩ := inR_of hi
        have := tr.gen p hp2 j hj C hs
        simp only [genD, ngen, hB] at this
        omega
      | none => exact ⟨dead B, by simp only [fin, hs, hi, if_true, hB, Option.map_some], .inr (by simp [dead])⟩
    | false =>
      have h0 : (st 0).H i = some B := by rw [tr.h0]; simp only [clr, hi]; exact hB
      obtain ⟨C, hC, hsame⟩ := hle i B h0
      exact ⟨C, by simp only [fin, hC], .inl ⟨hsame, fun L hL => by rw [hout i hi]; exact hL⟩⟩) (fun i C L hC hL => by
    cases hi : inR base ops.size i with
    | true => simp [ι0, hi] at hL
    | false =>
      rw [hout i hi] at hL
      cases h0 : s.H i with
      | none =>
        have := tr.out p hp2 i hi h0
        simp [fin, this, hi] at hC
      | some B =>
        have h0' : (st 0).H i = some B := by rw [tr.h0]; simp only [clr, hi]; exact h0
        obtain ⟨D, hD, hsame⟩ := hle i B h0'
        simp only [fin, hD] at hC
        cases hC
        exact ⟨B, rfl, hsame, hL⟩)
  have hrel : RelS A0 B0 w0 nt ops base s.H st (In (Array.replicate ops.size false)) p ι0 a w1 := by
    refine ⟨fun t => .inr ⟨fun i o _ hi => absurd hi (hno i), ?_⟩, hr.sz, q2, hr.df, hr.bl, hr.le, hr.ev.trans q1, fun i hi _ => ?_, fun i o _ hi => absurd hi (hno i)⟩
    · rw [e1]; exact (hr.tm t).ev q1
    · have : inR base ops.size (base + i) = true := by simp [inR]; omega
      simp [ι0, this]
  exact draw_main (A0 := A0) (B0 := B0) (w0 := w0) hok tr (Q := QQ A0 B0 w0 nt Q) (fun ι a w hf => ⟨_, ι, e3, hf⟩) ops.size (Array.replicate ops.size false) p ι0 a w1 (by simp) (by simp)
    ⟨hp2, fun o ho => ⟨(hp3 o ho).1, hno p⟩, fun k o h1 h2 h3 => hp4 k o (Nat.zero_le _) h1 h2 h3⟩ hrel

theorem least {p : Nat → Prop} (h : ∃ n, p n) : ∃ n, p n ∧ ∀ m, p m → n ≤ m := by
  obtain ⟨n, hn⟩ := h
  induction n using Nat.strongRecOn with
  | _ n ih =>
    by_cases h : ∃ m, m < n ∧ p m
    · obtain ⟨m, h1, h2⟩ := h
      exact ih m h1 h2
    · exact ⟨n, hn, fun m hm => Nat.le_of_not_lt fun hlt => h ⟨m, hlt, hm⟩⟩

theorem awp_sound (hm : P.follows .mixedOrders = true) : ∀ (c : Code) (Q : Exit → St → Prop) (s : St) (ι : Plc) (a : Act) (w : World), awp P nt c Q s → Rel A0 B0 w0 nt s ι a w → c.wp P (QQ A0 B0 w0 nt Q) a w := by
  intro c
  induction c with
  | skip => intro Q s ι a w h hr; exact wp_skip ⟨s, ι, h, hr⟩
  | label l => intro Q s ι a w h hr; exact wp_label ⟨s, ι, h, hr⟩
  | ret => intro Q s ι a w h hr; exact wp_ret ⟨s, ι, h, hr⟩
  | exit id => intro Q s ι a w h hr; exact wp_exit ⟨s, ι, h, hr⟩
  | seq x y ihx ihy =>
    intro Q s ι a w h hr
    refine wp_seq (wp_mono (ihx _ s ι a w h hr) fun e a w hq => ?_)
    obtain ⟨s, ι, hq, hr⟩ := hq
    cases e with
    | normal => exact ihy Q s ι a w hq hr
    | _ => exact ⟨s, ι, hq, hr⟩
  | cond c x y ihx ihy =>
    intro Q s ι a w h hr
    simp only [awp] at h
    split at h
    · rename_i t ht
      have hv := hr.op c
      rw [ht] at hv
      refine wp_cond_split hv.of_bool (fun e => ?_) (fun e => ?_)
      · subst e; exact ihx Q s ι a w (by simpa using h) hr
      · subst e; exact ihy Q s ι a w (by simpa using h) hr
    · exact h.elim
  | block id c ih =>
    intro Q s ι a w h hr
    refine wp_block (wp_mono (ih _ s ι a w h hr) fun e a w hq => ?_)
    obtain ⟨s, ι, hq, hr⟩ := hq
    cases e with
    | exit id' =>
      simp only [inBlockA] at hq
      simp only [Exit.inBlock]
      split at hq
      · rename_i e; rw [if_pos e]; exact ⟨s, ι, hq, hr⟩
      · rename_i e; rw [if_neg e]; exact ⟨s, ι, hq, hr⟩
    | _ => exact ⟨s, ι, hq, hr⟩
  | loop c ih =>
    intro Q s ι a w h hr
    obtain ⟨s', hg, I, n, hI, hround⟩ := h
    obtain ⟨ι', hr⟩ := hg _ _ _ _ ι a w hr
    classical
    let J : Nat → Act → World → Prop := fun n a w => ∃ s ι, I n s ∧ Rel A0 B0 w0 nt s ι a w
    let μ : Act → World → Nat := fun a w => if h : ∃ n, J n a w then Classical.choose (least h) else 0
    refine wp_loop (fun a w => ∃ n, J n a w) μ ⟨n, s', ι', hI, hr⟩ ?_
    intro a w hJ
    have hμ : μ a w = Classical.choose (least hJ) := by simp only [μ]; rw [dif_pos hJ]
    obtain ⟨⟨s, ι, hI, hr⟩, _⟩ := Classical.choose_spec (least hJ)
    refine wp_mono (ih _ s ι a w (hround _ s hI) hr) fun e a' w' hq => ?_
    obtain ⟨s2, ι2, hq, hr2⟩ := hq
    cases e with
    | normal =>
      obtain ⟨m, hm', hI2⟩ := hq
      have hJ' : ∃ n, J n a' w' := ⟨m, s2, ι2, hI2, hr2⟩
      refine ⟨hJ', ?_⟩
      have hμ' : μ a' w' = Classical.choose (least hJ') := by simp only [μ]; rw [dif_pos hJ']
      rw [hμ, hμ']
      exact Nat.lt_of_le_of_lt ((Classical.choose_spec (least hJ')).2 m ⟨s2, ι2, hI2, hr2⟩) hm'
    | _ => exact ⟨s2, ι2, hq, hr2⟩
  | region id ops draw =>
    intro Q s ι a w h hr
    obtain ⟨s', hg, h⟩ := h
    obtain ⟨ι', hr⟩ := hg _ _ _ _ ι a w hr
    cases draw with
    | true =>
      simp only [if_true] at h
      exact draw_sound hm h.1 h.2 hr
    | false =>
      simp only [Bool.false_eq_true, if_false] at h
      refine wp_region ?_
      rw [List.range_eq_range']
      exact ops_sound (fun s ι a w hq hr => ⟨s, ι, hq, hr⟩) ops.size 0 s' ι' a w (by omega) (by simpa using h) hr
  | _ => intro Q s ι a w h hr; exact h.elim

/-- One result. -/
def resA (P : Program) (s : St) : ResultVar → Option AV
  | .tmp t => some (s.τ t)
  | .cell t ty => match cellsAt s.H (s.τ t) with
    | some cs => loadA P ty cs
    | none => none
def tupOf : List AV → AV
  | [x] => x
  | l => .tup l
def resAll (P : Program) (fn : Func) (s : St) : Option AV := (fn.results.toList.mapM (resA P s)).map tupOf

theorem results_sound {fn : Func} {s : St} {r : AV} (h : resAll P fn s = some r) (hr : Rel A0 B0 w0 nt s ι a w) : ∃ v, (results fn a.tmps).run P w = .ok v w ∧ VR w ι s.H (Al A0 B0 w ι s.H) r v := by
  unfold resAll at h
  rw [Option.map_eq_some_iff] at h
  obtain ⟨l, hl, rfl⟩ := h
  obtain ⟨f, hf, f1, f2⟩ : ∃ f : ResultVar → Sem Value, results fn a.tmps = (do let vs ← fn.results.mapM f; pure (if h : vs.size = 1 then vs[0] else .tuple vs)) ∧
      (∀ t, f (.tmp t) = pure (a.tmps.getD t undef)) ∧ (∀ x t, f (.cell x t) = do loadVar t (← asAddr (a.tmps.getD x undef))) := ⟨_, rfl, fun _ => rfl, fun _ _ => rfl⟩
  have key : ∀ (rs : List ResultVar) (l : List AV), rs.mapM (resA P s) = some l → ∃ vs : List Value, (rs.mapM f).run P w = .ok vs w ∧ l.length = vs.length ∧
      ∀ (k : Nat) (x : AV) (v : Value), l[k]? = some x → vs[k]? = some v → VR w ι s.H (Al A0 B0 w ι s.H) x v := by
    intro rs
    induction rs with
    | nil => intro l h; simp at h; subst h; exact ⟨[], by simp, rfl, by simp⟩
    | cons r rs ih =>
      intro l h
      simp only [List.mapM_cons] at h
      cases hx : resA P s r with
      | none => simp [hx] at h
      | some x =>
        cases hm : rs.mapM (resA P s) with
        | none => simp [hx, hm] at h
        | some l' =>
          simp [hx, hm] at h; subst h
          obtain ⟨vs, h1, h2, h3⟩ := ih l' hm
          have one : ∃ v, (f r).run P w = .ok v w ∧ VR w ι s.H (Al A0 B0 w ι s.H) x v := by
            cases r with
            | tmp t => simp [resA] at hx; subst hx; exact ⟨_, by rw [f1]; rfl, hr.tm t⟩
            | cell t ty =>
              simp only [resA] at hx
              split at hx
              · rename_i cs hc
                obtain ⟨ad, e, hcell⟩ := cellsAt_sound hr.hr (hr.tm t) hc
                obtain ⟨u, h4, h5⟩ := loadVar_sound (P := P) hcell hx
                exact ⟨u, by rw [f2, e]; simp [asAddr, h4], h5⟩
              · cases hx
          obtain ⟨v, h4, h5⟩ := one
          refine ⟨v :: vs, ?_, by simp [h2], fun k y u hk hu => ?_⟩
          · rw [List.mapM_cons]
            simp only [Sem.run_bind, h4, Result.andThen_ok, h1, Sem.run_pure]
          · cases k with
            | zero => simp at hk hu; subst hk; subst hu; exact h5
            | succ k => simp at hk hu; exact h3 k y u hk hu
  obtain ⟨vs, h1, h2, h3⟩ := key _ l hl
  have hrun : (results fn a.tmps).run P w = .ok (if h : vs.toArray.size = 1 then vs.toArray[0] else .tuple vs.toArray) w := by
    rw [hf, Array.mapM_eq_mapM_toList]
    simp only [Sem.run_bind, Sem.run_map]
    rw [h1]
    rfl
  refine ⟨_, hrun, ?_⟩
  cases l with
  | nil =>
    have : vs = [] := List.eq_nil_of_length_eq_zero (by simpa using h2.symm)
    subst this
    exact .data _ _ (.tup [] #[] rfl (by simp))
  | cons x l =>
    cases l with
    | nil =>
      obtain ⟨v, rfl⟩ : ∃ v, vs = [v] := List.length_eq_one_iff.1 (by simpa using h2.symm)
      exact h3 0 x v rfl rfl
    | cons y l =>
      have hne : ¬ vs.toArray.size = 1 := by simp at h2 ⊢; omega
      rw [dif_neg hne]
      exact .tup _ _ (by simpa using h2) fun k x v hk hv => h3 k x v hk (by simpa using hv)
end
end Go.Ab

/- The rules by which a contract is shown of a function's body. -/
namespace Go.Ab
open Go.RowKit

/-- All blocks closed, but the one that is handed over. -/
def frz (oid : Option Nat) (H : Heap) : Heap := fun j => if oid = some j then H j else (H j).map fun B => { B with own := false }
/-- What is handed over. -/
def OwnD (H : Heap) (oid : Option Nat) (r d : AV) : Prop :=
  (∃ id g off len B xs, r = .ref id g off len ∧ oid = some id ∧ H id = some B ∧ B.gen = g ∧ B.own = true ∧ off + len ≤ B.els.length ∧ dl (dc true (frz oid H) 6) ((B.els.drop off).take len) = some xs ∧ d = .own B.sz xs) ∨
  (r = .nil ∧ ∃ sz, d = .own sz [])
/-- A cell c of a result, told as e. -/
def RDc (H : Heap) (oid : Option Nat) (c e : AV) : Prop := (isOwn e = false ∧ DCell (dc true (frz oid H) 6) c e) ∨ OwnD H oid c e
/-- A result r, told as d. oid: the block that is handed over. -/
def RD1 (H : Heap) (oid : Option Nat) (r d : AV) : Prop :=
  (dval true (frz oid H) r = some d ∧ isOwn d = false) ∨ OwnD H oid r d ∨
  (∃ cs ds, r = .agg cs ∧ d = .agg ds ∧ cs.length = ds.length ∧ ∀ (k : Nat) (c e : AV), cs[k]? = some c → ds[k]? = some e → RDc H oid c e)
def RD (H : Heap) (r d : AV) : Prop :=
  ∃ oid, match d with
    | .tup ds => ∃ rs, r = .tup rs ∧ rs.length = ds.length ∧ ∀ (k : Nat) (x y : AV), rs[k]? = some x → ds[k]? = some y → RD1 H oid x y
    | d => RD1 H oid r d

def st0 (args : List AV) : St := ⟨fun t => args.getD t (.tup []), fun _ => none, 0⟩
/-- What a body must end with. -/
def RetD (P : Program) (fn : Func) (res : AV) : Exit → St → Prop := fun e s => (e = .normal ∨ e = .ret) ∧ ∃ r, resAll P fn s = some r ∧ RD s.H r res

section
variable {P : Program} {w : World} {ι : Plc} {H : Heap} {A0 : Nat → Prop} {B0 : Nat}

theorem frz_ok (hH : HR w ι H (Al A0 B0 w ι H) B0) (oid : Option Nat) : Ev w ι H w ι (frz oid H) ∧ HR w ι (frz oid H) (Al A0 B0 w ι (frz oid H)) B0 := by
  refine grow_ok hH (fun id B hB => ?_) (fun id C L hC hL => ?_)
  · by_cases h : oid = some id
    · exact ⟨B, by simp only [frz, h, if_true]; exact hB, .inl ⟨Same.refl B, fun _ h => h⟩⟩
    · exact ⟨{ B with own := false }, by simp only [frz]; rw [if_neg h, hB]; rfl, .inl ⟨⟨rfl, rfl, rfl, fun h => by cases h⟩, fun _ h => h⟩⟩
  · simp only [frz] at hC
    split at hC
    · exact ⟨C, hC, Same.refl C, hL⟩
    · rw [Option.map_eq_some_iff] at hC
      obtain ⟨B, hB, rfl⟩ := hC
      exact ⟨B, hB, ⟨rfl, rfl, rfl, fun h => by cases h⟩, hL⟩

def obOf (H : Heap) (ι : Plc) (oid : Option Nat) : Option Nat :=
  oid.bind fun id => match H id with
    | some B => if B.own = true then (ι id).map (·.blk) else none
    | none => none

theorem RD_sub (hH : HR w ι H (Al A0 B0 w ι H) B0) (oid : Option Nat) : ∀ b, Ar true A0 B0 w ι (frz oid H) b → (A0 b ∨ B0 ≤ b) ∧ b < w.heap.size ∧ (obOf H ι oid) ≠ some b := by
  intro b hb
  refine ⟨hb.1, hb.2.1, fun e => ?_⟩
  cases oid with
  | none => simp [obOf] at e
  | some id =>
    simp only [obOf, Option.bind_some] at e
    split at e
    · rename_i B hB
      split at e
      · rename_i ho
        rw [Option.map_eq_some_iff] at e
        obtain ⟨L, hL, rfl⟩ := e
        exact hb.2.2 rfl id B L (by simp only [frz, if_true]; exact hB) hL ho rfl
      · cases e
    · cases e

theorem OwnD_sound (hH : HR w ι H (Al A0 B0 w ι H) B0) {oid : Option Nat} {r : AV} {sz : Nat} {xs : List AV} {v : Value} (hv : VR w ι H (Al A0 B0 w ι H) r v) (h : OwnD H oid r (.own sz xs)) :
    OwnV w B0 A0 (obOf H ι oid) sz xs v := by
  obtain ⟨f1, f2⟩ := frz_ok hH oid
  have sub := RD_sub hH oid
  rcases h with ⟨id, g, off, len, B, xs, rfl, rfl, hB, hg, hown, hle, hd, he⟩ | ⟨rfl, sz', he⟩
  · cases he
    rcases hv.of_ref hB hg with ⟨L, o, cap, hL, rfl, e1, e2, e3, e4⟩ | ⟨base, rfl, he, rfl, rfl⟩
    · right
      have hb := hH.blk id B L hB hL
      obtain ⟨c, e, fr, hrow, hcs, hcell⟩ := hb.row
      have hfe : ∀ y ∈ (B.els.drop off).take len, y.fits B.sz = true := fun y hy => hb.fit y (List.mem_of_mem_drop (List.mem_of_mem_take hy))
      obtain ⟨h1, h2, h3⟩ := dl_get hd hfe
      have hlen : xs.length = len := by rw [← h1]; simp; omega
      have hcapn : (off + cap) * B.sz ≤ L.cap * B.sz := Nat.mul_le_mul_right _ e2
      rw [Nat.add_mul] at hcapn
      refine ⟨L.blk, L.base + off * B.sz, o, cap, c, e, fr, by simp [obOf, hB, hown, hL], hb.low, by rw [hlen], e4, hrow, by omega, by omega, h2, fun k h5 h6 => (hb.free hown).2 k (by omega) (by omega), fun k x hk => ?_⟩
      obtain ⟨c0, h4, h5⟩ := h3 k x hk
      obtain ⟨u, h6, h7⟩ := hcell _ c0 (flat_drop_take hb.fit h4 (by omega))
      refine ⟨u, by rw [← h6]; congr 1; omega, ?_⟩
      have h7 := h7.ev f1
      rcases h5 with h5 | ⟨h5, rfl⟩
      · exact (dc_sound f2 6 h7 h5).mono fun b hb => ⟨sub b hb, rfl⟩
      · exact ((h7.isDc h5).mono fun b hb => ⟨hb.ar (ro := true), rfl⟩ : DR w (Ar true A0 B0 w ι _) x u).mono fun b hb => ⟨sub b hb, rfl⟩
    · left
      have : xs = [] := by
        have hd' : dl (dc true (frz (some id) H) 6) [] = some xs := by simpa [he] using hd
        simp [dl] at hd'; exact hd'
      exact ⟨this, base, rfl⟩
  · cases he
    obtain ⟨base, rfl⟩ := hv.of_nil
    exact .inl ⟨rfl, base, rfl⟩

theorem OwnD_shape {oid : Option Nat} {r d : AV} (h : OwnD H oid r d) : ∃ sz xs, d = .own sz xs := by
  rcases h with ⟨id, g, off, len, B, xs, _, _, _, _, _, _, _, rfl⟩ | ⟨_, sz, rfl⟩
  · exact ⟨_, _, rfl⟩
  · exact ⟨_, _, rfl⟩

theorem RD1_sound (hH : HR w ι H (Al A0 B0 w ι H) B0) {oid : Option Nat} {r d : AV} {v : Value} (hv : VR w ι H (Al A0 B0 w ι H) r v) (h : RD1 H oid r d) :
    RC1 w B0 A0 (obOf H ι oid) d v := by
  obtain ⟨f1, f2⟩ := frz_ok hH oid
  have sub := RD_sub hH oid
  rcases h with ⟨h, _⟩ | h | ⟨cs, ds, rfl, rfl, hl, hc⟩
  · have := dval_sound f2 (hv.ev f1) h
    exact RC1_of_DR (this.mono fun b hb => ⟨sub b hb, rfl⟩)
  · obtain ⟨sz, xs, rfl⟩ := OwnD_shape h
    exact OwnD_sound hH hv h
  · obtain ⟨vs, rfl, hl2, hvs⟩ := hv.of_agg
    refine ⟨vs, rfl, by omega, fun k e u h1 h2 => ?_⟩
    have hlt : k < cs.length := by have := (List.getElem?_eq_some_iff.1 h1).1; omega
    have h3 : cs[k]? = some cs[k] := List.getElem?_eq_getElem hlt
    have h4 := hvs k _ u h3 h2
    rcases hc k _ e h3 h1 with ⟨ho, h5⟩ | h5
    · have h6 : DR w (Ar true A0 B0 w ι (frz oid H)) e u := by
        rcases h5 with h5 | ⟨h5, h6⟩
        · exact dc_sound f2 6 (h4.ev f1) h5
        · subst h6; exact ((h4.ev f1).isDc h5).mono fun b hb => ⟨hb.ar, rfl⟩
      have h7 := h6.mono (A' := fun b => (A0 b ∨ B0 ≤ b) ∧ b < w.heap.size ∧ _) (w' := w) fun b hb => ⟨sub b hb, rfl⟩
      unfold RCc
      split
      · simp [isOwn] at ho
      · exact h7
    · obtain ⟨sz, xs, rfl⟩ := OwnD_shape h5
      exact OwnD_sound hH h4 h5

theorem AC.mk {f : FuncId} {fn : Func} {c : Code} {args : List AV} {res : AV} (hm : P.follows .mixedOrders = true) (hf : P.funcs[f]? = some fn) (hb : fn.body = some c) (hcall : ∀ vs w, (callFunc f vs).run P w = .ok (.enter f vs) w)
    (hn : args.length ≤ fn.ntmps) (h : awp P fn.ntmps c (RetD P fn res) (st0 args)) : AC P f args res := by
  refine ⟨hcall, fun w A vs hA hl hv => ?_⟩
  have hNO : ∀ b, NotOwn (fun _ => none) (fun _ => none) b := fun b id B L h => by cases h
  have hr : Rel A w.heap.size ⟨w, fun _ => none, fun _ => none⟩ fn.ntmps (st0 args) (fun _ => none) { tmps := vs ++ Array.replicate (fn.ntmps - vs.size) undef, defers := [] } w := by
    refine ⟨fun t => ?_, by simp; omega, ⟨(fun id B L h => by cases h), (fun i j B C L M h => by cases h)⟩, rfl, Below.refl _ _, Nat.le_refl _, Ev.refl _ _ _⟩
    simp only [st0]
    by_cases ht : t < vs.size
    · have h1 : args[t]? = some args[t] := List.getElem?_eq_getElem (by omega)
      have h2 : vs[t]? = some vs[t] := by simp [ht]
      have e1 : args.getD t (.tup []) = args[t] := by simp [List.getD, h1]
      have e2 : (vs ++ Array.replicate (fn.ntmps - vs.size) undef).getD t undef = vs[t] := by
        rw [Array.getD_eq_getD_getElem?, Array.getElem?_append_left ht, h2]; rfl
      rw [e1, e2]
      exact .data _ _ ((hv t _ _ h1 h2).mono fun b hb => ⟨⟨.inl hb, hA b hb, hNO b⟩, rfl⟩)
    · have e1 : args.getD t (.tup []) = .tup [] := by simp [List.getD, List.getElem?_eq_none (show args.length ≤ t by omega)]
      have e2 : (vs ++ Array.replicate (fn.ntmps - vs.size) undef).getD t undef = undef := by
        rw [Array.getD_eq_getD_getElem?, Array.getElem?_append_right (by omega), Array.getElem?_replicate]
        split <;> rfl
      rw [e1, e2]
      exact .data _ _ (.tup [] #[] rfl (by simp))
  refine calls_of_wp hf hb (wp_mono (awp_sound hm c _ _ _ _ w h hr) fun e a' w' hq => ?_)
  obtain ⟨s, ι, ⟨he, r, hres, hrd⟩, hrel⟩ := hq
  have key : a'.defers = [] ∧ ∃ v, (results fn a'.tmps).run P w' = .ok v w' ∧ ∃ v', Ending.returned v = .returned v' ∧ Below w.heap.size w w' ∧ RRes w' w.heap.size A res v' := by
    obtain ⟨v, h1, h2⟩ := results_sound hres hrel
    refine ⟨hrel.df, v, h1, v, rfl, hrel.bl, ?_⟩
    obtain ⟨oid, hrd⟩ := hrd
    refine ⟨obOf s.H ι oid, ?_⟩
    · split at hrd
      · rename_i ds
        obtain ⟨rs, rfl, hl, hk⟩ := hrd
        obtain ⟨us, rfl, hul, hus⟩ := h2.of_tup
        refine ⟨us, rfl, by omega, fun k d u hd hu => ?_⟩
        have hlt : k < rs.length := by have := (List.getElem?_eq_some_iff.1 hd).1; omega
        have hr1 : rs[k]? = some rs[k] := List.getElem?_eq_getElem hlt
        exact RD1_sound hrel.hr (hus k _ u hr1 hu) (hk k _ d hr1 hd)
      · rename_i hno
        cases res <;> first
          | exact absurd rfl (hno _)
          | exact RD1_sound hrel.hr h2 hrd
  rcases he with rfl | rfl
  · exact key
  · exact key

/-- What the body of a function must end with that writes to what it is handed. -/
def RetW (P : Program) (fn : Func) (res : AV) (H' : Heap) : Exit → St → Prop := fun e s => (e = .normal ∨ e = .ret) ∧ resAll P fn s = some res ∧ s.H = H'

theorem AW.mk {f : FuncId} {fn : Func} {c : Code} {args : List AV} {res : AV} {H H' : Heap} (nx : Nat) (hm : P.follows .mixedOrders = true) (hf : P.funcs[f]? = some fn) (hb : fn.body = some c) (hcall : ∀ vs w, (callFunc f vs).run P w = .ok (.enter f vs) w)
    (hn : args.length ≤ fn.ntmps) (h : awp P fn.ntmps c (RetW P fn res H') ⟨(st0 args).τ, H, nx⟩) : AW P f args H res H' := by
  refine ⟨hcall, fun w ι A0 B0 vs hB hH hl hv => ?_⟩
  have hr : Rel A0 B0 ⟨w, ι, H⟩ fn.ntmps ⟨(st0 args).τ, H, nx⟩ ι { tmps := vs ++ Array.replicate (fn.ntmps - vs.size) undef, defers := [] } w := by
    refine ⟨fun t => ?_, by simp; omega, hH, rfl, Below.refl _ _, hB, Ev.refl _ _ _⟩
    simp only [st0]
    by_cases ht : t < vs.size
    · have h1 : args[t]? = some args[t] := List.getElem?_eq_getElem (by omega)
      have h2 : vs[t]? = some vs[t] := by simp [ht]
      have e1 : args.getD t (.tup []) = args[t] := by simp [List.getD, h1]
      have e2 : (vs ++ Array.replicate (fn.ntmps - vs.size) undef).getD t undef = vs[t] := by
        rw [Array.getD_eq_getD_getElem?, Array.getElem?_append_left ht, h2]; rfl
      rw [e1, e2]
      exact hv t _ _ h1 h2
    · have e1 : args.getD t (.tup []) = .tup [] := by simp [List.getD, List.getElem?_eq_none (show args.length ≤ t by omega)]
      have e2 : (vs ++ Array.replicate (fn.ntmps - vs.size) undef).getD t undef = undef := by
        rw [Array.getD_eq_getD_getElem?, Array.getElem?_append_right (by omega), Array.getElem?_replicate]
        split <;> rfl
      rw [e1, e2]
      exact .data _ _ (.tup [] #[] rfl (by simp))
  refine calls_of_wp hf hb (wp_mono (awp_sound hm c _ _ _ _ w h hr) fun e a' w' hq => ?_)
  obtain ⟨s, ι', ⟨he, hres, rfl⟩, hrel⟩ := hq
  have key : a'.defers = [] ∧ ∃ v, (results fn a'.tmps).run P w' = .ok v w' ∧ ∃ v' ι', Ending.returned v = .returned v' ∧ Ev w ι H w' ι' s.H ∧ HR w' ι' s.H (Al A0 B0 w' ι' s.H) B0 ∧ VR w' ι' s.H (Al A0 B0 w' ι' s.H) res v' ∧ Below B0 w w' := by
    obtain ⟨v, h1, h2⟩ := results_sound hres hrel
    exact ⟨hrel.df, v, h1, v, ι', rfl, hrel.ev, hrel.hr, h2, hrel.bl⟩
  rcases he with rfl | rfl
  · exact key
  · exact key

/-- A result that comes from what was made may be told as data. -/
theorem AC.own_lst {f : FuncId} {args : List AV} {sz : Nat} {xs : List AV} (h : AC P f args (.own sz xs)) : AC P f args (.lst xs) := by
  refine ⟨h.1, fun w A vs hA hl hv => (h.2 w A vs hA hl hv).mono ?_⟩
  rintro e w' ⟨v, rfl, hb, ob, hr⟩
  refine ⟨v, rfl, hb, none, ?_⟩
  rcases hr with ⟨rfl, base, rfl⟩ | ⟨blk, base, o, cap, c, e, fr, rfl, h2, rfl, h4, h5, h6, h7, h8, _, h10⟩
  · exact .lst0 _ _
  · have hblt : blk < w'.heap.size := (Array.getElem?_eq_some_iff.1 h5).1
    cases hx : xs with
    | nil => exact .lst0 _ _
    | cons x xs' =>
      rw [← hx]
      have hpos : 0 < xs.length := by rw [hx]; simp
      have ho : o = base := by omega
      refine .lst sz xs _ xs.length cap (fun k => (c[base + k]?).getD undef) rfl h7 h8 (fun k hk => ⟨⟨.inr h2, hblt, by simp⟩, ?_⟩) fun k y hk => ?_
      · obtain ⟨u, h11, _⟩ := h10 k _ (List.getElem?_eq_getElem hk)
        rw [add_mk, cell_of_row w' _ _ c e fr h5, ho, h11]; rfl
      · obtain ⟨u, h11, h12⟩ := h10 k y hk
        rw [h11]
        exact h12.mono fun b hb => ⟨⟨hb.1, hb.2.1, by simp⟩, rfl⟩
end
end Go.Ab

/- From what a law's row asks to contracts: what is read of an argument is data. -/
namespace Go.Ab
open Go.RowKit

/-- What a type's cells hold. -/
def DatF (D : TypeId → List AV → Prop) : List TypeId → List AV → Prop
  | [], cs => cs = []
  | t :: ts, cs => ∃ c r, cs = c ++ r ∧ D t c ∧ DatF D ts r
def DatV (P : Program) (D : TypeId → List AV → Prop) (t : TypeId) (x : AV) : Prop :=
  match tk P t with
  | .struct _ => ∃ cs, x = .agg cs ∧ D t cs
  | _ => D t [x]
def Dat (P : Program) : Nat → TypeId → List AV → Prop
  | 0, _, _ => False
  | n + 1, t, cs =>
    match tk P t with
    | .bool => ∃ b, cs = [.bool b]
    | .int k => ∃ m, cs = [.int k m] ∧ (Lit.int k m).wf = true
    | .str => ∃ l, cs = [.str l] ∧ l.length ≤ maxLen
    | .slice e => ∃ xs, cs = [.lst xs] ∧ xs.length ≤ maxLen ∧ ∀ x ∈ xs, DatV P (Dat P n) e x
    | .struct fs => DatF (Dat P n) (fs.map (·.1)) cs
    | _ => False
/-- The types that are followed. -/
def goodF (P : Program) (g : TypeId → Bool) : Nat → List (TypeId × Nat) → Nat → Bool
  | off, [], tot => off == tot
  | off, f :: fs, tot => f.2 == off && g f.1 && goodF P g (off + P.cellsOf f.1) fs tot
def good (P : Program) : Nat → TypeId → Bool
  | 0, _ => false
  | n + 1, t =>
    match tk P t with
    | .bool | .int _ | .str => true
    | .slice e => P.cellsOf e != 0 && good P n e
    | .struct fs => goodF P (good P n) 0 fs (P.cellsOf t)
    | _ => false

section
variable {H : Type} {enc : TypeId × Value → H} {P : Program} {w : World} {sp : Nat → Bool} {held : Bool}

theorem goodF_le {P : Program} {g : TypeId → Bool} : ∀ {fs : List (TypeId × Nat)} {off tot : Nat}, goodF P g off fs tot = true → off ≤ tot
  | [], off, tot, h => by simp [goodF] at h; omega
  | f :: fs, off, tot, h => by
    simp [goodF] at h
    have := goodF_le h.2
    omega

theorem choice_lt {α : Type} [Inhabited α] {n : Nat} {p : Nat → α → Prop} (h : ∀ i, i < n → ∃ x, p i x) : ∃ f : Nat → α, ∀ i, i < n → p i (f i) := by
  have : ∀ i, ∃ x, i < n → p i x := fun i => by
    by_cases hi : i < n
    · obtain ⟨x, hx⟩ := h i hi; exact ⟨x, fun _ => hx⟩
    · exact ⟨default, fun h => absurd h hi⟩
  obtain ⟨f, hf⟩ := Classical.axiomOfChoice this
  exact ⟨f, hf⟩

theorem flat_split {sz : Nat} {xs : List AV} (h : ∀ x ∈ xs, x.fits sz = true) {k : Nat} {c : AV} (hk : (flat xs)[k]? = some c) :
    ∃ i x j, xs[i]? = some x ∧ x.cells[j]? = some c ∧ k = i * sz + j ∧ j < sz := by
  induction xs generalizing k with
  | nil => simp [flat] at hk
  | cons y ys ih =>
    have hy := (fits_cells (h y (by simp))).1
    have e : flat (y :: ys) = y.cells ++ flat ys := by simp [flat]
    rw [e] at hk
    by_cases hlt : k < y.cells.length
    · rw [List.getElem?_append_left hlt] at hk
      exact ⟨0, y, k, rfl, hk, by omega, by omega⟩
    · rw [List.getElem?_append_right (by omega)] at hk
      obtain ⟨i, x, j, h1, h2, h3, h4⟩ := ih (fun x hx => h x (by simp [hx])) hk
      exact ⟨i + 1, x, j, by simpa using h1, h2, by rw [Nat.add_mul]; omega, h4⟩

theorem cells?_get {base : Nat} {a : Addr} {n : Nat} {vs : List Value} (h : w.cells? base a n = some vs) : vs.length = n ∧ ∀ i, i < n → w.cell? (a.add i) = vs[i]? := by
  unfold World.cells? at h
  split at h
  · exact ⟨by simpa using mapM_some_length h, fun i hi => mapM_some_get h i i (by simp [hi])⟩
  · cases h

theorem cell_lt {w : World} {a : Addr} {v : Value} (h : w.cell? a = some v) : a.block < w.heap.size := by
  unfold World.cell? at h
  split at h
  · rename_i hb; exact (Array.getElem?_eq_some_iff.1 hb).1
  · cases h

/-- x is the data that stands at cells vs. -/
def Stands (w : World) (cs : List AV) (vs : List Value) : Prop :=
  cs.length = vs.length ∧ (∀ (k : Nat) (c : AV) (v : Value), cs[k]? = some c → vs[k]? = some v → DR w (· < w.heap.size) c v) ∧ ∀ c ∈ cs, c.isCell = true

theorem stands_one {c : AV} {v : Value} (h : DR w (· < w.heap.size) c v) (hc : c.isCell = true) : Stands w [c] [v] := by
  refine ⟨rfl, fun k c' v' h1 h2 => ?_, fun c' h => by simp at h; subst h; exact hc⟩
  cases k with
  | zero => simp at h1 h2; subst h1; subst h2; exact h
  | succ k => simp at h1

theorem datV_of {m : Nat} {e : TypeId} {cs : List AV} (hd : Dat P m e cs) (hne : cs.length ≠ 0) : ∃ x : AV, x.cells = cs ∧ DatV P (Dat P m) e x := by
  unfold DatV
  cases m with
  | zero => exact hd.elim
  | succ m =>
    cases ht : tk P e <;> simp only [Dat, ht] at hd ⊢
    case bool => obtain ⟨b, rfl⟩ := hd; exact ⟨_, rfl, b, rfl⟩
    case int => obtain ⟨b, rfl, h⟩ := hd; exact ⟨_, rfl, b, rfl, h⟩
    case str => obtain ⟨b, rfl, h⟩ := hd; exact ⟨_, rfl, b, rfl, h⟩
    case slice => obtain ⟨b, rfl, h⟩ := hd; exact ⟨_, rfl, b, rfl, h⟩
    case struct => exact ⟨.agg cs, rfl, cs, rfl, hd⟩

theorem trod_dat : ∀ (m n : Nat) (t : TypeId) (vals : List Value) (x : DataW H × List MemPlace), good P m t = true → DataW.trod enc P w 0 sp held n t vals = some x →
    ∃ cs, Stands w cs vals ∧ Dat P m t cs := by
  intro m
  induction m with
  | zero => intro n t vals x h; simp [good] at h
  | succ m ih =>
    intro n t vals x hg h
    unfold good at hg
    unfold Dat
    cases hu : P.underlying t with
    | none => simp [tk, hu] at hg
    | some u =>
      cases u with
      | bool =>
        obtain ⟨b, rfl, _⟩ := DataW.trod_bool hu h
        have e : tk P t = .bool := by simp [tk, hu]
        rw [e]
        exact ⟨[.bool b], stands_one (.bool b) rfl, b, rfl⟩
      | int k =>
        obtain ⟨b, rfl, _, hw⟩ := DataW.trod_int hu h
        have e : tk P t = .int k := by simp [tk, hu]
        rw [e]
        exact ⟨[.int k b], stands_one (.int k b) rfl, b, rfl, hw⟩
      | string =>
        obtain ⟨s, rfl, _, hl⟩ := DataW.trod_string hu h
        have e : tk P t = .str := by simp [tk, hu]
        rw [e]
        exact ⟨[.str s.data.toList], stands_one (.str s _ rfl) rfl, _, rfl, hl⟩
      | slice el =>
        have e : tk P t = .slice el := by simp [tk, hu]
        rw [e] at hg ⊢
        simp at hg
        rcases DataW.trod_slice hu h with ⟨rfl, _⟩ | ⟨a, len, cap, elems, rest, n', rfl, rfl, _, _, h1, h0, h3, h4, _, _⟩
        · exact ⟨[.lst []], stands_one (.lst0 _ _) rfl, [], rfl, by simp [maxLen], by simp⟩
        · have step : ∀ i, i < len → ∃ x : AV, ∃ vs, w.cells? 0 (a.add (i * P.cellsOf el)) (P.cellsOf el) = some vs ∧ Stands w x.cells vs ∧ DatV P (Dat P m) el x := by
            intro i hi
            have := h4 i hi
            rw [List.getElem?_eq_getElem (show i < elems.length by omega), Option.bind_eq_some_iff] at this
            obtain ⟨vs, h5, h6⟩ := this
            obtain ⟨cs, h7, h8⟩ := ih n' el vs _ hg.2 h6
            have hne : cs.length ≠ 0 := by rw [h7.1, (cells?_get h5).1]; exact hg.1
            obtain ⟨x, h9, h10⟩ := datV_of h8 hne
            exact ⟨x, vs, h5, by rw [h9]; exact h7, h10⟩
          obtain ⟨f, hf⟩ := choice_lt step
          have hget : ∀ i, i < len → ((List.range len).map f)[i]? = some (f i) := fun i hi => by simp [hi]
          have hlen : ((List.range len).map f).length = len := by simp
          have hmem : ∀ x ∈ (List.range len).map f, ∃ i, i < len ∧ x = f i := fun x hx => by
            simp at hx; obtain ⟨i, hi, rfl⟩ := hx; exact ⟨i, hi, rfl⟩
          have hfit : ∀ x ∈ (List.range len).map f, x.fits (P.cellsOf el) = true := fun x hx => by
            obtain ⟨i, hi, rfl⟩ := hmem x hx
            obtain ⟨vs, h5, h6, _⟩ := hf i hi
            simp only [AV.fits, Bool.and_eq_true, beq_iff_eq, List.all_eq_true]
            exact ⟨by rw [h6.1, (cells?_get h5).1], h6.2.2⟩
          refine ⟨[.lst ((List.range len).map f)], stands_one ?_ rfl, _, rfl, by rw [hlen]; omega, fun x hx => by obtain ⟨i, hi, rfl⟩ := hmem x hx; obtain ⟨vs, _, _, h7⟩ := hf i hi; exact h7⟩
          have cell : ∀ (k : Nat) (c : AV), (flat ((List.range len).map f))[k]? = some c → ∃ v, w.cell? (a.add k) = some v ∧ DR w (· < w.heap.size) c v := by
            intro k c hk
            obtain ⟨i, x, j, h5, h6, rfl, h7⟩ := flat_split hfit hk
            have hi : i < len := by have := (List.getElem?_eq_some_iff.1 h5).1; simpa using this
            rw [hget i hi] at h5; cases h5
            obtain ⟨vs, h8, h9, _⟩ := hf i hi
            obtain ⟨h10, h11⟩ := cells?_get h8
            have hv : vs[j]? = some vs[j] := List.getElem?_eq_getElem (by omega)
            refine ⟨vs[j], ?_, h9.2.1 j c _ h6 hv⟩
            rw [← hv, ← h11 j h7, add_add]
          refine .lst (P.cellsOf el) _ a len cap (fun k => (w.cell? (a.add k)).getD undef) (by simp) h1 hfit (fun k hk => ?_) fun k c hk => ?_
          · obtain ⟨v, h5, _⟩ := cell k _ (List.getElem?_eq_getElem hk)
            refine ⟨?_, by rw [h5]; rfl⟩
            rw [← add_block a k]
            exact cell_lt h5
          · obtain ⟨v, h5, h6⟩ := cell k c hk
            rw [h5]; exact h6
      | struct fs =>
        have e : tk P t = .struct (fs.toList.map fun f => (f.type, f.offset)) := by simp [tk, hu]
        rw [e] at hg ⊢
        obtain ⟨xs, n', rfl, _, hl, h1, h2⟩ := DataW.trod_struct hu h
        have hall : ∀ f ∈ fs.toList, ∃ y, DataW.trod enc P w 0 sp held n' f.type ((vals.drop f.offset).take (P.cellsOf f.type)) = some y := by
          intro f hf
          obtain ⟨i, hi, rfl⟩ := List.getElem_of_mem hf
          have hi' : i < fs.size := by simpa using hi
          refine ⟨xs[i]'(by omega), ?_⟩
          rw [← List.getElem?_eq_getElem]
          exact h2 i _ (by simp [hi'])
        have key : ∀ (fl : List Field) (off : Nat), goodF P (good P m) off (fl.map fun f => (f.type, f.offset)) vals.length = true → (∀ f ∈ fl, ∃ y, DataW.trod enc P w 0 sp held n' f.type ((vals.drop f.offset).take (P.cellsOf f.type)) = some y) →
            ∃ cs, Stands w cs (vals.drop off) ∧ DatF (Dat P m) (fl.map (·.type)) cs := by
          intro fl
          induction fl with
          | nil =>
            intro off hg _
            simp [goodF] at hg
            refine ⟨[], ⟨by simp [hg], by simp, by simp⟩, rfl⟩
          | cons f fl ihf =>
            intro off hg hf
            simp [goodF] at hg
            obtain ⟨⟨rfl, hg1⟩, hg2⟩ := hg
            have hle := goodF_le hg2
            obtain ⟨cs, h3, h4⟩ := ihf _ hg2 fun g hg => hf g (by simp [hg])
            obtain ⟨y, hy⟩ := hf f (by simp)
            obtain ⟨c, h5, h6⟩ := ih n' _ _ _ hg1 hy
            have hlc : c.length = P.cellsOf f.type := by rw [h5.1]; simp; omega
            refine ⟨c ++ cs, ⟨?_, fun k x v hk hv => ?_, fun x hx => ?_⟩, c, cs, rfl, h6, h4⟩
            · rw [List.length_append, h3.1, hlc]; simp; omega
            · by_cases hlt : k < c.length
              · rw [List.getElem?_append_left hlt] at hk
                refine h5.2.1 k x v hk ?_
                rw [List.getElem?_take, if_pos (by omega)]; exact hv
              · rw [List.getElem?_append_right (by omega)] at hk
                refine h3.2.1 _ x v hk ?_
                rw [List.getElem?_drop] at hv ⊢
                rw [← hv]; congr 1; omega
            · rcases List.mem_append.1 hx with hx | hx
              · exact h5.2.2 x hx
              · exact h3.2.2 x hx
        obtain ⟨cs, h3, h4⟩ := key fs.toList 0 (by rw [hl]; exact hg) hall
        refine ⟨cs, by simpa using h3, ?_⟩
        have : (fs.toList.map fun f => (f.type, f.offset)).map (·.1) = fs.toList.map (·.type) := by simp
        simp only [this]
        exact h4
      | _ => simp [tk, hu] at hg

/-- The arguments, as a law reads them. -/
def DatA (P : Program) : List TypeId → List AV → Prop
  | [], args => args = []
  | t :: ts, args => ∃ x r, args = x :: r ∧ DatV P (Dat P 8) t x ∧ DatA P ts r

theorem one_value {t : TypeId} {v : Value} {c : AV} (hs : Stands w [c] v.cells.toList) (hd : Dat P 8 t [c]) (hv : v.cells = #[v]) : ∃ x, DR w (· < w.heap.size) x v ∧ Dat P 8 t [x] :=
  ⟨c, hs.2.1 0 c v rfl (by rw [hv]; rfl), hd⟩

theorem datV_value {t : TypeId} {v : Value} {b : Nat} {cs : List AV} (hok : Value.okWide P w .any b t v) (hs : Stands w cs v.cells.toList) (hd : Dat P 8 t cs) : ∃ x, DR w (· < w.heap.size) x v ∧ DatV P (Dat P 8) t x := by
  unfold DatV
  cases hu : P.underlying t with
  | none => exfalso; simp [Dat, tk, hu] at hd
  | some u =>
    cases u with
    | struct fs =>
      have e : tk P t = .struct (fs.toList.map fun f => (f.type, f.offset)) := by simp [tk, hu]
      rw [e]
      simp only [Value.okWide, hu] at hok
      obtain ⟨vs, rfl, _⟩ := hok
      refine ⟨.agg cs, .agg cs vs (by simpa [Value.cells] using hs.1) fun k c v h1 h2 => hs.2.1 k c v h1 (by simpa [Value.cells] using h2), cs, rfl, hd⟩
    | bool =>
      have e : tk P t = .bool := by simp [tk, hu]
      rw [e]
      have hd' := hd
      simp only [Dat, e] at hd'
      obtain ⟨b, rfl⟩ := hd'
      exact one_value hs hd (by simp only [Value.okWide, hu, Cell.okWide, Cell.ok] at hok; cases v <;> first | rfl | exact hok.elim)
    | int k =>
      have e : tk P t = .int k := by simp [tk, hu]
      rw [e]
      have hd' := hd
      simp only [Dat, e] at hd'
      obtain ⟨b, rfl, _⟩ := hd'
      exact one_value hs hd (by simp only [Value.okWide, hu, Cell.okWide, Cell.ok] at hok; cases v <;> first | rfl | exact hok.elim)
    | string =>
      have e : tk P t = .str := by simp [tk, hu]
      rw [e]
      have hd' := hd
      simp only [Dat, e] at hd'
      obtain ⟨b, rfl, _⟩ := hd'
      exact one_value hs hd (by simp only [Value.okWide, hu, Cell.okWide, Cell.ok] at hok; cases v <;> first | rfl | exact hok.elim)
    | slice el =>
      have e : tk P t = .slice el := by simp [tk, hu]
      rw [e]
      have hd' := hd
      simp only [Dat, e] at hd'
      obtain ⟨b, rfl, _⟩ := hd'
      exact one_value hs hd (by simp only [Value.okWide, hu, Cell.okWide, Cell.ok] at hok; cases v <;> first | rfl | exact hok.elim)
    | _ => exfalso; simp [Dat, tk, hu] at hd

theorem trodAll_dat : ∀ {ts : List TypeId} {vs : List Value} {ds : List (DataW H)} {ps : List MemPlace} {b : Nat}, ts.all (good P 8) = true → DataW.TrodAll enc P w 0 sp held ts vs ds ps →
    (∀ (j : Nat) t v, ts[j]? = some t → vs[j]? = some v → Value.okWide P w .any b t v) →
    ∃ args : List AV, args.length = vs.length ∧ DatA P ts args ∧ ∀ (k : Nat) (x : AV) (v : Value), args[k]? = some x → vs[k]? = some v → DR w (· < w.heap.size) x v
  | [], [], _, _, _, _, _, _ => ⟨[], rfl, rfl, by simp⟩
  | [], _ :: _, _, _, _, _, h, _ => by simp [DataW.TrodAll] at h
  | t :: ts, vs, ds, ps, b, hg, h, hv => by
    obtain ⟨v, vs, d, ds, p, q, rfl, rfl, rfl, ⟨n, h1⟩, h2⟩ := Go.ChangeShapes.trodAll_cons h
    simp only [List.all_cons, Bool.and_eq_true] at hg
    obtain ⟨cs, h3, h4⟩ := trod_dat 8 n t _ _ hg.1 h1
    obtain ⟨x, h5, h6⟩ := datV_value (hv 0 t v rfl rfl) h3 h4
    obtain ⟨args, h7, h8, h9⟩ := trodAll_dat hg.2 h2 fun j t v h h' => hv (j + 1) t v (by simpa using h) (by simpa using h')
    refine ⟨x :: args, by simp [h7], ⟨x, args, rfl, h6, h8⟩, fun k y u hk hu => ?_⟩
    cases k with
    | zero => simp at hk hu; subst hk; subst hu; exact h5
    | succ k => exact h9 k y u (by simpa using hk) (by simpa using hu)

theorem trodAll_below (hl : laidOutB P = true) {w' : World} (hb : Below w.heap.size w w') : ∀ {ts : List TypeId} {vs : List Value} {ds : List (DataW H)} {ps : List MemPlace},
    (ts.all fun t => P.readableRec t && decide (t < P.types.size)) = true → DataW.TrodAll enc P w 0 (fun _ => true) true ts vs ds ps → DataW.TrodAll enc P w' 0 (fun b => decide (b < w.heap.size)) true ts vs ds ps
  | [], [], [], _, _, h => h
  | [], _ :: _, _, _, _, h => by simp [DataW.TrodAll] at h
  | [], [], _ :: _, _, _, h => by simp [DataW.TrodAll] at h
  | t :: ts, vs, ds, ps, hg, h => by
    obtain ⟨v, vs, d, ds, p, q, rfl, rfl, rfl, h1, h2⟩ := Go.ChangeShapes.trodAll_cons h
    simp only [List.all_cons, Bool.and_eq_true, decide_eq_true_eq] at hg
    refine ⟨p, q, hb.trod hl hg.1.1 hg.1.2 h1 (fun y hy => ?_), trodAll_below hl hb hg.2 h2, rfl⟩
    obtain ⟨n, h1⟩ := h1
    exact DataW.trod_lt _ _ _ _ h1 y hy

/-- A law whose contract says 'true', as its row asks it. -/
theorem law_calls (hl : laidOutB P = true) {f : FuncId} {ts : List TypeId} {args : Array Value} {ds : List (DataW H)} {ps : List MemPlace} {b : Nat} (hg : ts.all (good P 8) = true)
    (hr : (ts.all fun t => P.readableRec t && decide (t < P.types.size)) = true) (hA : DataW.TrodAll enc P w 0 (fun _ => true) true ts args.toList ds ps)
    (hv : ∀ (j : Nat) t v, ts[j]? = some t → args[j]? = some v → Value.okWide P w .any b t v) (law : ∀ xs, DatA P ts xs → AC P f xs (.bool true)) :
    Calls P f args w fun e w' => e = .returned (.bool true) ∧ Below w.heap.size w w' ∧ DataW.TrodAll enc P w' 0 (fun b => decide (b < w.heap.size)) true ts args.toList ds ps := by
  obtain ⟨xs, h1, h2, h3⟩ := trodAll_dat hg hA (fun j t v h h' => hv j t v h (by simpa using h'))
  refine ((law xs h2).2 w (· < w.heap.size) args (fun _ h => h) (by simpa using h1) fun k x v hk hv => h3 k x v hk (by simpa using hv)).mono ?_
  rintro e w' ⟨v, rfl, hb, ob, hr'⟩
  have : v = .bool true := by
    have hr' : DR w' _ (.bool true) v := hr'
    cases hr'; rfl
  subst this
  exact ⟨rfl, hb, trodAll_below hl hb hr hA⟩

theorem trodAll_len : ∀ {ts : List TypeId} {vs : List Value} {ds : List (DataW H)} {ps : List MemPlace} {b : Nat} {sp : Nat → Bool}, DataW.TrodAll enc P w b sp held ts vs ds ps → ds.length = ts.length
  | [], [], [], _, _, _, _ => rfl
  | [], _ :: _, _, _, _, _, h => by simp [DataW.TrodAll] at h
  | [], [], _ :: _, _, _, _, h => by simp [DataW.TrodAll] at h
  | t :: ts, vs, ds, ps, _, _, h => by
    obtain ⟨v, vs, d, ds, p, q, rfl, rfl, rfl, h1, h2⟩ := Go.ChangeShapes.trodAll_cons h
    simp [trodAll_len h2]
end

section
variable {P : Program} {D : TypeId → List AV → Prop} {n : Nat} {t : TypeId} {cs : List AV} {x : AV}
def datK (P : Program) (D : TypeId → List AV → Prop) (k : TK) (cs : List AV) : Prop :=
  match k with
  | .bool => ∃ b, cs = [.bool b]
  | .int k => ∃ m, cs = [.int k m] ∧ (Lit.int k m).wf = true
  | .str => ∃ l, cs = [.str l] ∧ l.length ≤ maxLen
  | .slice e => ∃ xs, cs = [.lst xs] ∧ xs.length ≤ maxLen ∧ ∀ x ∈ xs, DatV P D e x
  | .struct fs => DatF D (fs.map (·.1)) cs
  | _ => False
theorem dat_succ : Dat P (n + 1) t cs = datK P (Dat P n) (tk P t) cs := by
  simp only [Dat, datK]
theorem datK_bool : datK P D .bool cs = ∃ b, cs = [.bool b] := (rfl)
theorem datK_int {k} : datK P D (.int k) cs = ∃ m, cs = [.int k m] ∧ (Lit.int k m).wf = true := (rfl)
theorem datK_str : datK P D .str cs = ∃ l, cs = [.str l] ∧ l.length ≤ maxLen := (rfl)
theorem datK_slice {e} : datK P D (.slice e) cs = ∃ xs, cs = [.lst xs] ∧ xs.length ≤ maxLen ∧ ∀ x ∈ xs, DatV P D e x := (rfl)
theorem datK_struct {fs} : datK P D (.struct fs) cs = DatF D (fs.map (·.1)) cs := (rfl)
theorem datF_nil : DatF D [] cs = (cs = []) := (rfl)
theorem datF_cons {ts} : DatF D (t :: ts) cs = ∃ c r, cs = c ++ r ∧ D t c ∧ DatF D ts r := (rfl)
theorem datA_nil {l} : DatA P [] l = (l = []) := (rfl)
theorem datA_cons {ts l} : DatA P (t :: ts) l = ∃ x r, l = x :: r ∧ DatV P (Dat P 8) t x ∧ DatA P ts r := (rfl)
def datVK (P : Program) (D : TypeId → List AV → Prop) (t : TypeId) (k : TK) (x : AV) : Prop :=
  match k with
  | .struct _ => ∃ cs, x = .agg cs ∧ D t cs
  | _ => D t [x]
theorem datV_eq : DatV P D t x = datVK P D t (tk P t) x := by simp only [DatV, datVK]
theorem datVK_struct {fs} : datVK P D t (.struct fs) x = ∃ cs, x = .agg cs ∧ D t cs := (rfl)
theorem datVK_int {k} : datVK P D t (.int k) x = D t [x] := (rfl)
theorem datVK_bool : datVK P D t .bool x = D t [x] := (rfl)
theorem datVK_str : datVK P D t .str x = D t [x] := (rfl)
theorem datVK_slice {e} : datVK P D t (.slice e) x = D t [x] := (rfl)
end
attribute [go_sem] dat_succ datK_bool datK_int datK_str datK_slice datK_struct datF_nil datF_cons datA_nil datA_cons datV_eq datVK_struct datVK_int datVK_bool datVK_str datVK_slice
end Go.Ab

/- Stepping through a body: what simp needs. -/
namespace Go.Ab
open Go.RowKit

/-- An operation, with its guard's temporary at hand. -/
structure RO where
  dst : Option Tmp
  op : Op
  g : Option (Option Tmp × Bool)

def ro (ops : List Oper) (o : Oper) : RO := ⟨o.dst, o.op, o.guard.map fun p => ((ops[p.1]?).bind (·.dst), p.2)⟩

/-- A call, then K. -/
def callP (P : Program) (G : Option (Nat → Nat)) (slot : Nat) (dst : Option Tmp) (f : FuncId) (args : List AV) (s : St) (K : St → Prop) : Prop :=
  (∃ H' r, CallD P s.H f args H' r ∧ K (s.res slot (genAt G s.H slot) dst H' r)) ∨
  (G = none ∧ ∃ H' r, AW P f args s.H r H' ∧ K ⟨put s.τ dst r, H', s.nx⟩)
def outP (G : Option (Nat → Nat)) (slot : Nat) (dst : Option Tmp) (s : St) (K : St → Prop) : Option Out → Prop
  | some (.val v) => K ⟨put s.τ dst v, s.H, s.nx⟩
  | some (.new b mv) => K ⟨put s.τ dst (mv slot (genAt G s.H slot)), upd s.H slot (some { b with gen := genAt G s.H slot }), s.nx⟩
  | some (.wr v id b) => K ⟨put s.τ dst v, upd s.H id (some b), s.nx⟩
  | none => False
def runOp (P : Program) (G : Option (Nat → Nat)) (slot : Nat) (dst : Option Tmp) (op : Op) (s : St) (K : St → Prop) : Prop :=
  match op with
  | .call c => match c.callee with
    | .value x => match opnd s.τ x with
      | .func f caps => callP P G slot dst f (c.args.toList.map (opnd s.τ) ++ caps) s K
      | _ => False
    | _ => outP G slot dst s K (aop P op (opnd s.τ) s.H)
  | op => outP G slot dst s K (aop P op (opnd s.τ) s.H)
def guardP (b : AV) (want : Bool) (X Y : St → Prop) (s s' : St) : Prop :=
  match b with
  | .bool b => if b = want then X s else Y s'
  | .tup [] => Y s'
  | _ => False
def run (P : Program) (G : Option (Nat → Nat)) (base : Nat) (K : St → Prop) : Nat → List RO → St → Prop
  | _, [], s => K s
  | i, o :: os, s => match o.g with
    | none => runOp P G (base + i) o.dst o.op s (run P G base K (i + 1) os)
    | some (some d, want) => guardP (s.τ d) want (fun s => runOp P G (base + i) o.dst o.op s (run P G base K (i + 1) os)) (run P G base K (i + 1) os) s ⟨put s.τ o.dst (.tup []), s.H, s.nx⟩
    | some (none, _) => False

def okBody (nt : Nat) : Code → Bool
  | .region _ ops draw => ops.toList.all (fun o => o.dst.all (· < nt)) && (!draw || drawOk ops)
  | .seq x y | .cond _ x y => okBody nt x && okBody nt y
  | .block _ c | .loop c => okBody nt c
  | _ => true

def sx (P : Program) : Code → (Exit → St → Prop) → St → Prop
  | .skip, Q, s => Q .normal s
  | .label _, Q, s => Q .normal s
  | .ret, Q, s => Q .ret s
  | .exit id, Q, s => Q (.exit id) s
  | .seq x y, Q, s => sx P x (thenA (sx P y Q) Q) s
  | .cond c x y, Q, s => match opnd s.τ c with
    | .bool t => if t = true then sx P x Q s else sx P y Q s
    | _ => False
  | .block id c, Q, s => sx P c (inBlockA id Q) s
  | .loop c, Q, s => ∃ s', Ghost s s' ∧ ∃ (I : Nat → St → Prop) (n : Nat), I n s' ∧ ∀ n s, I n s → sx P c (thenA (fun s' => ∃ m, m < n ∧ I m s') Q) s
  | .region id ops draw, Q, s =>
    if draw = true then run P (some (genD s.H)) (s.nx + id * 1000) (fun t => Q .normal ⟨t.τ, fin (s.nx + id * 1000) ops.size s.H t.H, t.nx⟩) 0 (ops.toList.map (ro ops.toList)) ⟨s.τ, clr (s.nx + id * 1000) ops.size s.H, s.nx⟩
    else run P none (s.nx + id * 1000) (Q .normal) 0 (ops.toList.map (ro ops.toList)) s
  | _, _, _ => False

section
variable {P : Program} {nt : Nat}

theorem callP_step {G : Option (Nat → Nat)} {ops : Array Oper} {slot : Nat} {o : Oper} {s : St} {K : St → Prop} {f : FuncId} {args : List AV} (hd : (o.dst.all (· < nt)) = true) (hw : wantedA ops s.τ o = some true) (hc : callee o.op s.τ = some (f, args))
    (h : callP P G slot o.dst f args s K) : ∃ s', AStep P nt G ops slot o s s' ∧ K s' := by
  rcases h with ⟨H', r, h1, h2⟩ | ⟨hG, H', r, h1, h2⟩
  · exact ⟨_, ⟨hd, .inr ⟨hw, .inr (.inl ⟨f, args, H', r, hc, h1, rfl⟩)⟩⟩, h2⟩
  · exact ⟨_, ⟨hd, .inr ⟨hw, .inr (.inr ⟨hG, f, args, H', r, hc, h1, rfl⟩)⟩⟩, h2⟩

theorem outP_step {G : Option (Nat → Nat)} {ops : Array Oper} {slot : Nat} {o : Oper} {s : St} {K : St → Prop} (hd : (o.dst.all (· < nt)) = true) (hw : wantedA ops s.τ o = some true) (hc : callee o.op s.τ = none)
    (h : outP G slot o.dst s K (aop P o.op (opnd s.τ) s.H)) : ∃ s', AStep P nt G ops slot o s s' ∧ K s' := by
  cases ha : aop P o.op (opnd s.τ) s.H with
  | none => rw [ha] at h; exact h.elim
  | some out =>
    rw [ha] at h
    refine ⟨_, ⟨hd, .inr ⟨hw, .inl ⟨hc, out, ha, rfl⟩⟩⟩, ?_⟩
    cases out <;> exact h

theorem runOp_step {G : Option (Nat → Nat)} {ops : Array Oper} {slot : Nat} {o : Oper} {s : St} {K : St → Prop} (hd : (o.dst.all (· < nt)) = true) (hw : wantedA ops s.τ o = some true)
    (h : runOp P G slot o.dst o.op s K) : ∃ s', AStep P nt G ops slot o s s' ∧ K s' := by
  unfold runOp at h
  split at h
  · rename_i c hop
    split at h
    · rename_i x hx
      split at h
      · rename_i f caps hf
        refine callP_step hd hw ?_ h
        simp only [hop, callee, hx, hf]
      · exact h.elim
    · rename_i hno
      refine outP_step hd hw ?_ h
      simp only [hop, callee]
  · rename_i hno
    refine outP_step hd hw ?_ h
    unfold callee
    split
    · rename_i c hc; exact absurd hc (hno c)
    · rfl

theorem run_sound {G : Option (Nat → Nat)} {ops : Array Oper} {base : Nat} {K : St → Prop} : ∀ (os : List Oper) (i : Nat) (s : St), (os.all fun o => o.dst.all (· < nt)) = true → run P G base K i (os.map (ro ops.toList)) s → awpOps P nt G ops base K i os s := by
  intro os
  induction os with
  | nil => intro i s _ h; exact h
  | cons o os ih =>
    intro i s hd h
    simp only [List.all_cons, Bool.and_eq_true] at hd
    have key : ∀ s, run P G base K (i + 1) (os.map (ro ops.toList)) s → awpOps P nt G ops base K (i + 1) os s := fun s h => ih (i + 1) s hd.2 h
    rw [List.map_cons] at h
    unfold run at h
    unfold awpOps
    cases hg : o.guard with
    | none =>
      have hw : wantedA ops s.τ o = some true := by simp only [wantedA, hg]
      simp only [ro, hg, Option.map_none] at h
      obtain ⟨s', h1, h2⟩ := runOp_step hd.1 hw h
      exact ⟨s', h1, key s' h2⟩
    | some g =>
      obtain ⟨j, want⟩ := g
      simp only [ro, hg, Option.map_some, Array.getElem?_toList] at h
      split at h
      · rename_i e; cases e
      · rename_i d w e
        injection e with e
        injection e with hd' e
        subst e
        simp only [guardP] at h
        split at h
        · rename_i b hb
          split at h
          · rename_i e
            have hw : wantedA ops s.τ o = some true := by simp only [wantedA, hg, hd', hb, e]; simp
            obtain ⟨s', h1, h2⟩ := runOp_step hd.1 hw h
            exact ⟨s', h1, key s' h2⟩
          · rename_i e
            have hw : wantedA ops s.τ o = some false := by simp only [wantedA, hg, hd', hb]; simp; exact e
            exact ⟨_, ⟨hd.1, .inl ⟨hw, rfl⟩⟩, key _ h⟩
        · rename_i hb
          have hw : wantedA ops s.τ o = some false := by simp only [wantedA, hg, hd', hb]
          exact ⟨_, ⟨hd.1, .inl ⟨hw, rfl⟩⟩, key _ h⟩
        · exact h.elim
      · exact h.elim

theorem awpOps_mono {G : Option (Nat → Nat)} {ops : Array Oper} {base : Nat} {K K' : St → Prop} (hK : ∀ s, K s → K' s) : ∀ (os : List Oper) (i : Nat) (s : St), awpOps P nt G ops base K i os s → awpOps P nt G ops base K' i os s
  | [], _, s, h => hK s h
  | _ :: os, i, _, ⟨s', h1, h2⟩ => ⟨s', h1, awpOps_mono hK os (i + 1) s' h2⟩

theorem awp_mono : ∀ (c : Code) (Q Q' : Exit → St → Prop) (s : St), (∀ e s, Q e s → Q' e s) → awp P nt c Q s → awp P nt c Q' s := by
  intro c
  induction c with
  | skip | label | ret | exit => intro Q Q' s hq h; exact hq _ _ h
  | seq x y ihx ihy =>
    intro Q Q' s hq h
    refine ihx _ _ s (fun e s h => ?_) h
    cases e with
    | normal => exact ihy _ _ s hq h
    | _ => exact hq _ _ h
  | cond c x y ihx ihy =>
    intro Q Q' s hq h
    simp only [awp] at h ⊢
    split at h
    · rename_i t ht
      cases t
      · exact ihy _ _ s hq h
      · exact ihx _ _ s hq h
    · exact h.elim
  | block id c ih =>
    intro Q Q' s hq h
    refine ih _ _ s (fun e s h => ?_) h
    cases e with
    | exit id' =>
      simp only [inBlockA] at h ⊢
      split at h
      · rename_i e; rw [if_pos e]; exact hq _ _ h
      · rename_i e; rw [if_neg e]; exact hq _ _ h
    | _ => exact hq _ _ h
  | loop c ih =>
    intro Q Q' s hq h
    obtain ⟨s', hg, I, n, h1, h2⟩ := h
    refine ⟨s', hg, I, n, h1, fun n s hI => ih _ _ s (fun e s h => ?_) (h2 n s hI)⟩
    cases e with
    | normal => exact h
    | _ => exact hq _ _ h
  | region id ops draw =>
    intro Q Q' s hq h
    obtain ⟨s', hg, h⟩ := h
    refine ⟨s', hg, ?_⟩
    split at h
    · rename_i e
      rw [if_pos e]
      exact ⟨h.1, awpOps_mono (fun s => hq _ _) _ _ _ h.2⟩
    · rename_i e
      rw [if_neg e]
      exact awpOps_mono (fun s => hq _ _) _ _ _ h
  | _ => intro Q Q' s hq h; exact h.elim

theorem sx_sound : ∀ (c : Code) (Q : Exit → St → Prop) (s : St), okBody nt c = true → sx P c Q s → awp P nt c Q s := by
  intro c
  induction c with
  | seq x y ihx ihy =>
    intro Q s hk h
    simp only [okBody, Bool.and_eq_true] at hk
    refine awp_mono x _ _ s (fun e s hq => ?_) (ihx _ s hk.1 h)
    cases e with
    | normal => exact ihy Q s hk.2 hq
    | _ => exact hq
  | cond c x y ihx ihy =>
    intro Q s hk h
    simp only [okBody, Bool.and_eq_true] at hk
    simp only [sx] at h
    simp only [awp]
    cases hv : opnd s.τ c <;> simp only [hv] at h ⊢
    rename_i t
    cases t
    · exact ihy Q s hk.2 (by simpa using h)
    · exact ihx Q s hk.1 (by simpa using h)
  | block id c ih => intro Q s hk h; exact ih _ s hk h
  | loop c ih =>
    intro Q s hk h
    obtain ⟨s', hg, I, n, h1, h2⟩ := h
    exact ⟨s', hg, I, n, h1, fun n s hI => ih _ s hk (h2 n s hI)⟩
  | region id ops draw =>
    intro Q s hk h
    simp only [okBody, Bool.and_eq_true, Bool.or_eq_true, Bool.not_eq_true'] at hk
    simp only [sx] at h
    refine ⟨s, Ghost.refl s, ?_⟩
    split at h
    · rename_i e
      subst e
      rw [if_pos rfl]
      exact ⟨by simpa using hk.2, run_sound _ 0 _ hk.1 h⟩
    · rename_i e
      rw [if_neg e]
      exact run_sound _ 0 _ hk.1 h
  | skip | label | ret | exit => intro Q s hk h; exact h
  | _ => intro Q s hk h; exact h.elim

/-- THE RULE: a contract, by stepping. -/
theorem AC.of_sx {f : FuncId} {fn : Func} {c : Code} {args : List AV} {res : AV} (hm : P.follows .mixedOrders = true) (hf : P.funcs[f]? = some fn) (hb : fn.body = some c) (hcall : ∀ vs w, (callFunc f vs).run P w = .ok (.enter f vs) w)
    (hk : okBody fn.ntmps c = true) (hn : args.length ≤ fn.ntmps) (h : sx P c (RetD P fn res) (st0 args)) : AC P f args res :=
  AC.mk hm hf hb hcall hn (sx_sound c _ _ hk h)
end
end Go.Ab

namespace Go.Ab
open Go.RowKit

/-- The generation of a block that is made anew. -/
def ngenB : Option Blk → Nat
  | some B => B.gen + 1
  | none => 0
theorem ngen_eq (H : Heap) (i : Nat) : ngen H i = ngenB (H i) := by unfold ngen ngenB; rfl
theorem ngenB_none : ngenB none = 0 := (rfl)
theorem ngenB_some {sz els g ow} : ngenB (some ⟨sz, els, g, ow⟩) = g + 1 := (rfl)

def hp0 : Heap := fun _ => none
def arg (l : List AV) (t : Nat) : AV := l.getD t (.tup [])
def τ0 (l : List AV) : Nat → AV := arg l
theorem st0_eq (l : List AV) : st0 l = ⟨τ0 l, hp0, 0⟩ := (rfl)
theorem hp0_get (i : Nat) : hp0 i = none := (rfl)
theorem τ0_zero (a : AV) (l : List AV) : τ0 (a :: l) 0 = a := (rfl)
theorem τ0_succ (a : AV) (l : List AV) (n : Nat) : τ0 (a :: l) (n + 1) = τ0 l n := (rfl)
theorem τ0_nil (n : Nat) : τ0 [] n = .tup [] := (rfl)

def runR (P : Program) (G : Option (Nat → Nat)) (base : Nat) (K : St → Prop) (l : List RO) (s : St) : Prop := run P G base K 0 l s
section
variable {P : Program} {Q : Exit → St → Prop} {s : St} {K : St → Prop} {G : Option (Nat → Nat)} {sl : Nat} {d : Option Tmp}

theorem sx_skip : sx P .skip Q s = Q .normal s := (rfl)
theorem sx_label {l} : sx P (.label l) Q s = Q .normal s := (rfl)
theorem sx_ret : sx P .ret Q s = Q .ret s := (rfl)
theorem sx_exit {i} : sx P (.exit i) Q s = Q (.exit i) s := (rfl)
theorem sx_seq {x y : Code} : sx P (.seq x y) Q s = sx P x (thenA (sx P y Q) Q) s := (rfl)
theorem sx_block {i : Nat} {c : Code} : sx P (.block i c) Q s = sx P c (inBlockA i Q) s := (rfl)
def condP (v : AV) (X Y : St → Prop) (s : St) : Prop :=
  match v with
  | .bool t => if t = true then X s else Y s
  | _ => False
theorem sx_cond {c : Operand} {x y : Code} : sx P (.cond c x y) Q s = condP (opnd s.τ c) (sx P x Q) (sx P y Q) s := (rfl)
theorem condP_true {X Y : St → Prop} : condP (.bool true) X Y s = X s := by simp [condP]
theorem condP_false {X Y : St → Prop} : condP (.bool false) X Y s = Y s := by simp [condP]
theorem condP_split {p : Prop} [Decidable p] {X Y : St → Prop} (h : p → X s) (k : ¬p → Y s) : condP (.bool (decide p)) X Y s := by
  by_cases hp : p
  · simp [condP, hp, h hp]
  · simp [condP, hp, k hp]
theorem condP_splitB {b : Bool} {X Y : St → Prop} (h : b = true → X s) (k : b = false → Y s) : condP (.bool b) X Y s := by
  cases b
  · exact k rfl
  · exact h rfl
theorem condP_congr {v v' : AV} {X Y : St → Prop} {s' : St} (h : v = v') (hs : s = s') : condP v X Y s = condP v' X Y s' := by rw [h, hs]
theorem condP_not {b : Bool} {X Y : St → Prop} : condP (.bool (!b)) X Y s = condP (.bool b) Y X s := by cases b <;> simp [condP]
theorem sx_region {id : Nat} {ops : Array Oper} : sx P (.region id ops false) Q s = runR P none (s.nx + id * 1000) (Q .normal) (ops.toList.map (ro ops.toList)) s := (rfl)
theorem sx_draw {id : Nat} {ops : Array Oper} : sx P (.region id ops true) Q s = runR P (some (genD s.H)) (s.nx + id * 1000) (fun t => Q .normal ⟨t.τ, fin (s.nx + id * 1000) ops.size s.H t.H, t.nx⟩) (ops.toList.map (ro ops.toList)) ⟨s.τ, clr (s.nx + id * 1000) ops.size s.H, s.nx⟩ := (rfl)
theorem thenA_normal {K : St → Prop} : thenA K Q .normal s = K s := (rfl)
theorem thenA_ret {K : St → Prop} : thenA K Q .ret s = Q .ret s := (rfl)
theorem thenA_exit {K : St → Prop} {i} : thenA K Q (.exit i) s = Q (.exit i) s := (rfl)
theorem inBlockA_normal {i} : inBlockA i Q .normal s = Q .normal s := (rfl)
theorem inBlockA_ret {i} : inBlockA i Q .ret s = Q .ret s := (rfl)
theorem inBlockA_exit {i j} : inBlockA i Q (.exit j) s = if j = i then Q .normal s else Q (.exit j) s := (rfl)

theorem ro_none {ops dst op t p a} : ro ops ⟨dst, op, t, p, a, none⟩ = ⟨dst, op, none⟩ := (rfl)
theorem ro_some {ops dst op t p a j b} : ro ops ⟨dst, op, t, p, a, some (j, b)⟩ = ⟨dst, op, some ((ops[j]?).bind (·.dst), b)⟩ := (rfl)
theorem run_nil {b i} : run P G b K i [] s = K s := (rfl)
theorem run_none {b i dst op os} : run P G b K i (⟨dst, op, none⟩ :: os) s = runOp P G (b + i) dst op s (run P G b K (i + 1) os) := (rfl)
theorem run_some {b i dst op os t w} : run P G b K i (⟨dst, op, some (some t, w)⟩ :: os) s = guardP (s.τ t) w (run P G b K i (⟨dst, op, none⟩ :: os)) (run P G b K (i + 1) os) s ⟨put s.τ dst (.tup []), s.H, s.nx⟩ := (rfl)
section
variable {X Y : St → Prop} {s' : St}
theorem guardP_true : guardP (.bool true) true X Y s s' = X s := by simp [guardP]
theorem guardP_false : guardP (.bool false) true X Y s s' = Y s' := by simp [guardP]
theorem guardP_tup {w : Bool} : guardP (.tup []) w X Y s s' = Y s' := (rfl)
theorem guardP_f {b : Bool} : guardP (.bool b) false X Y s s' = guardP (.bool b) true Y X s' s := by cases b <;> simp [guardP]
theorem guardP_split {p : Prop} [Decidable p] (h : p → X s) (k : ¬p → Y s') : guardP (.bool (decide p)) true X Y s s' := by
  by_cases hp : p
  · simp [guardP, hp, h hp]
  · simp [guardP, hp, k hp]
theorem guardP_splitB {b : Bool} (h : b = true → X s) (k : b = false → Y s') : guardP (.bool b) true X Y s s' := by
  cases b
  · exact k rfl
  · exact h rfl
theorem guardP_congr {v v' : AV} {w : Bool} {s2 s2' : St} (h : v = v') (h1 : s = s2) (h2 : s' = s2') : guardP v w X Y s s' = guardP v' w X Y s2 s2' := by rw [h, h1, h2]
theorem guardP_not {b w : Bool} : guardP (.bool (!b)) w X Y s s' = guardP (.bool b) w Y X s' s := by cases b <;> cases w <;> simp [guardP]
end
theorem run_congr {b i l} {s' : St} (h : s = s') : run P G b K i l s = run P G b K i l s' := by rw [h]
theorem sx_congr {c} {s' : St} (h : s = s') : sx P c Q s = sx P c Q s' := by rw [h]
theorem runOp_congr {dst op} {s' : St} (h : s = s') : runOp P G sl dst op s K = runOp P G sl dst op s' K := by rw [h]
theorem outP_congr {sl' : Nat} {s' : St} {o o' : Option Out} (h0 : sl = sl') (h : s = s') (h' : o = o') : outP G sl d s K o = outP G sl' d s' K o' := by rw [h0, h, h']
theorem callP_congr {sl' : Nat} {f : FuncId} {args args' : List AV} {s' : St} (h0 : sl = sl') (h : args = args') (h' : s = s') : callP P G sl d f args s K = callP P G sl' d f args' s' K := by rw [h0, h, h']
theorem runR_congr {b b' l l'} {s' : St} (h0 : b = b') (h1 : l = l') (h : s = s') : runR P G b K l s = runR P G b' K l' s' := by rw [h0, h1, h]
theorem runR_eq {b l} : runR P G b K l s = run P G b K 0 l s := (rfl)
theorem put_some {τ : Nat → AV} {t v} : put τ (some t) v = upd τ t v := (rfl)
theorem put_none {τ : Nat → AV} {v} : put τ none v = τ := (rfl)
theorem opnd_tmp {τ t} : opnd τ (.tmp t) = τ t := (rfl)
theorem opnd_func {τ f} : opnd τ (.func f) = .func f [] := (rfl)
theorem opnd_int {τ k n} : opnd τ (.const (.int k n)) = .int k n := (rfl)
theorem opnd_bool {τ b} : opnd τ (.const (.bool b)) = .bool b := (rfl)
theorem opnd_str {τ b} : opnd τ (.const (.string b)) = .str b.data.toList := (rfl)
theorem opnd_nil {τ a} : opnd τ (.const (.slice a 0 0)) = .nil := (rfl)
theorem opnd_agg {τ cs} : opnd τ (.const (.agg cs)) = .agg (cs.toList.map ofCell) := (rfl)
theorem ofCell_int {k n} : ofCell (.int k n) = .int k n := (rfl)
theorem ofCell_bool {b} : ofCell (.bool b) = .bool b := (rfl)
theorem ofCell_str {b} : ofCell (.string b) = .str b.data.toList := (rfl)
theorem ofCell_nil {a} : ofCell (.slice a 0 0) = .nil := (rfl)

/-- What follows an operation that gives a value. -/
def outV (d : Option Tmp) (s : St) (K : St → Prop) : Option AV → Prop
  | some v => K ⟨put s.τ d v, s.H, s.nx⟩
  | none => False
theorem outV_congr {s' : St} {o o' : Option AV} (h : s = s') (h' : o = o') : outV d s K o = outV d s' K o' := by rw [h, h']
theorem outV_some {v} : outV d s K (some v) = K ⟨put s.τ d v, s.H, s.nx⟩ := (rfl)
theorem outP_val {v} : outP G sl d s K (some (.val v)) = K ⟨put s.τ d v, s.H, s.nx⟩ := (rfl)
theorem outP_new {sz els g0 ow mv} : outP G sl d s K (some (.new ⟨sz, els, g0, ow⟩ mv)) = K ⟨put s.τ d (mv sl (genAt G s.H sl)), upd s.H sl (some ⟨sz, els, genAt G s.H sl, ow⟩), s.nx⟩ := (rfl)
theorem outP_wr {v id b} : outP G sl d s K (some (.wr v id b)) = K ⟨put s.τ d v, upd s.H id (some b), s.nx⟩ := (rfl)
theorem outP_map {x : Option AV} : outP G sl d s K (x.map Out.val) = outV d s K x := by cases x <;> rfl
theorem genAt_none {H i} : genAt none H i = ngenB (H i) := ngen_eq H i
theorem genAt_some {f : Nat → Nat} {H i} : genAt (some f) H i = f i := (rfl)
theorem genD_eq {H i} : genD H i = ngenB (H i) + 1 := by simp only [genD, ngen_eq]

theorem op_move {x} : runOp P G sl d (.move x) s K = K ⟨put s.τ d (opnd s.τ x), s.H, s.nx⟩ := (rfl)
theorem op_assign {x} : runOp P G sl d (.assign x) s K = K ⟨put s.τ d (opnd s.τ x), s.H, s.nx⟩ := (rfl)
def pickA (c x y : AV) : Option AV :=
  match c with
  | .bool t => some (if t then x else y)
  | _ => none
theorem pickA_true {x y} : pickA (.bool true) x y = some x := (rfl)
theorem pickA_false {x y} : pickA (.bool false) x y = some y := (rfl)
theorem pickA_bool {p q r} : pickA (.bool p) (.bool q) (.bool r) = some (.bool (if p then q else r)) := by cases p <;> rfl
theorem op_pick {c x y} : runOp P G sl d (.pick c x y) s K = outV d s K (pickA (opnd s.τ c) (opnd s.τ x) (opnd s.τ y)) := by
  simp only [runOp, aop, pickA]
  generalize opnd s.τ c = v
  try (cases v <;> rfl)
def allocA (z : Option AV) : Option Out :=
  match z with
  | some z => if z.cells.all AV.isCell then some (.new ⟨z.cells.length, [z], 0, true⟩ fun id g => .ptr id g 0 0) else none
  | none => none
theorem op_alloc {e} : runOp P G sl d (.alloc e) s K = outP G sl d s K (allocA (zro P e)) := (rfl)
theorem allocA_some {z} : allocA (some z) = if z.cells.all AV.isCell = true then some (.new ⟨z.cells.length, [z], 0, true⟩ fun id g => .ptr id g 0 0) else none := (rfl)
theorem op_box {t x} : runOp P G sl d (.box t x) s K = outP G sl d s K (allocA (some (opnd s.τ x))) := (rfl)
def buildA (z : Option AV) (pl : Option (Nat → Option (Nat × Nat))) (parts : List (Nat × AV)) : Option AV :=
  match z with
  | some (.agg z) => match pl with
    | some pl => (fillA pl z parts).map .agg
    | none => none
  | _ => none
theorem op_build {t ps} : runOp P G sl d (.build t ps) s K = outV d s K (buildA (zro P t) (plcF P t) (ps.toList.map fun p => (p.1, opnd s.τ p.2))) := by
  simp only [runOp, aop, buildA]
  generalize zro P t = z
  generalize plcF P t = pl
  cases z with
  | none => rfl
  | some z =>
    cases z with
    | agg z =>
      cases pl with
      | none => rfl
      | some pl =>
        simp only
        cases fillA pl z (ps.toList.map fun p => (p.1, opnd s.τ p.2)) <;> rfl
    | _ => rfl
theorem buildA_some {z pl parts} : buildA (some (.agg z)) (some pl) parts = (fillA pl z parts).map .agg := (rfl)
theorem op_buildSlice {t n ps} : runOp P G sl d (.buildSlice t n ps) s K = outP G sl d s K (aop P (.buildSlice t n ps) (opnd s.τ) s.H) := (rfl)
def loadV (c : Option (List AV)) (f : List AV → Option AV) : Option AV :=
  match c with
  | some cs => f cs
  | none => none
theorem loadV_some {cs f} : loadV (some cs) f = f cs := (rfl)
theorem op_load {t a} : runOp P G sl d (.load t a) s K = outV d s K (loadV (cellsAt s.H (opnd s.τ a)) (loadA P t)) := by
  simp only [runOp, aop, loadV]
  cases cellsAt s.H (opnd s.τ a) with
  | none => rfl
  | some cs => exact outP_map
theorem op_store {t a v} : runOp P G sl d (.store t a v) s K = outP G sl d s K (storeA P t s.H (opnd s.τ a) (opnd s.τ v)) := (rfl)
theorem op_nilCheck {x} : runOp P G sl d (.nilCheck x) s K = outV d s K (nilCheckA s.H (opnd s.τ x)) := by rw [← outP_map (G := G) (sl := sl)]; rfl
theorem op_binOp {o t x y u} : runOp P G sl d (.binOp o t x y u) s K = outV d s K (binA P o t (opnd s.τ x) (opnd s.τ y)) := by rw [← outP_map (G := G) (sl := sl)]; rfl
theorem op_unOp {o t x} : runOp P G sl d (.unOp o t x) s K = outV d s K (unA o (opnd s.τ x)) := by rw [← outP_map (G := G) (sl := sl)]; rfl
theorem op_convert {t u x} : runOp P G sl d (.convert t u x) s K = outP G sl d s K (convA P t u s.H (opnd s.τ x)) := (rfl)
theorem op_makeFunc {fn a b} : runOp P G sl d (.makeFunc fn a b) s K = outP G sl d s K (mkFuncA fn a.toList b.toList (opnd s.τ)) := (rfl)
theorem op_makeSlice {t l c} : runOp P G sl d (.makeSlice t l c) s K = outP G sl d s K (makeSliceA P t (opnd s.τ l) (opnd s.τ c)) := (rfl)
theorem op_slice {t x lo hi mx} : runOp P G sl d (.slice t x lo hi mx) s K = outV d s K (sliceA P t s.H (opnd s.τ) (opnd s.τ x) lo hi mx) := by rw [← outP_map (G := G) (sl := sl)]; rfl
theorem op_fieldAddr {t x f} : runOp P G sl d (.fieldAddr t x f) s K = outV d s K (fieldAddrA P t s.H (opnd s.τ x) f) := by rw [← outP_map (G := G) (sl := sl)]; rfl
def fieldV (P : Program) (k : TK) (x : AV) (f : Nat) : Option AV :=
  match k, x with
  | .struct fs, .agg cs => match fs[f]? with
    | some (ft, off) => partA P ft cs off
    | none => none
  | _, _ => none
def fieldP (P : Program) (cs : List AV) (y : Option (TypeId × Nat)) : Option AV :=
  match y with
  | some (ft, off) => partA P ft cs off
  | none => none
theorem op_field {t x f} : runOp P G sl d (.field t x f) s K = outV d s K (fieldV P (tk P t) (opnd s.τ x) f) := by
  simp only [runOp, aop, fieldV]
  generalize opnd s.τ x = v
  cases tk P t with
  | struct fs =>
    cases v with
    | agg cs =>
      simp only
      cases fs[f]? with
      | none => rfl
      | some p => exact outP_map
    | _ => rfl
  | _ => rfl
theorem fieldV_eq {fs cs f} : fieldV P (.struct fs) (.agg cs) f = fieldP P cs fs[f]? := (rfl)
theorem fieldP_some {cs t o} : fieldP P cs (some (t, o)) = partA P t cs o := (rfl)
theorem op_indexAddr {t x i} : runOp P G sl d (.indexAddr t x i) s K = outV d s K (indexAddrA P t s.H (opnd s.τ x) (opnd s.τ i)) := by rw [← outP_map (G := G) (sl := sl)]; rfl
theorem op_index {t x i} : runOp P G sl d (.index t x i) s K = outV d s K (indexA P t (opnd s.τ x) (opnd s.τ i)) := by rw [← outP_map (G := G) (sl := sl)]; rfl
theorem op_extract {x i} : runOp P G sl d (.extract x i) s K = outV d s K (extractA (opnd s.τ x) i) := by rw [← outP_map (G := G) (sl := sl)]; rfl

theorem op_call {f : FuncId} {args ts} : runOp P G sl d (.call ⟨.value (.func f), args, ts⟩) s K = callP P G sl d f (args.toList.map (opnd s.τ)) s K := by
  simp only [runOp, opnd, List.append_nil]
def callV (P : Program) (G : Option (Nat → Nat)) (sl : Nat) (d : Option Tmp) (v : AV) (args : List AV) (s : St) (K : St → Prop) : Prop :=
  match v with
  | .func f caps => callP P G sl d f (args ++ caps) s K
  | _ => False
theorem op_callV {t : Tmp} {args ts} : runOp P G sl d (.call ⟨.value (.tmp t), args, ts⟩) s K = callV P G sl d (s.τ t) (args.toList.map (opnd s.τ)) s K := (rfl)
theorem callV_func {f caps args} : callV P G sl d (.func f caps) args s K = callP P G sl d f (args ++ caps) s K := (rfl)
theorem op_bi {b args ts} : runOp P G sl d (.call ⟨.builtin b, args, ts⟩) s K = outP G sl d s K (biA P b args.toList ts.toList (opnd s.τ) s.H) := (rfl)
theorem bx_len {x t ρ H} : biA P .len [x] [t] ρ H = (lenA P t H (ρ x)).map .val := (rfl)
theorem bx_append {x y t u ρ H} : biA P .append [x, y] [t, u] ρ H = (match tk P u with
        | .slice _ | .str => appendA P t H (ρ x) (ρ y)
        | _ => none) := (rfl)
theorem bx_copy {x y t u ρ H} : biA P .copy [x, y] [t, u] ρ H = copyA P t H (ρ x) (ρ y) := (rfl)
theorem bx_min {x y ts ρ H} : biA P .min [x, y] ts ρ H = (minA (ρ x) (ρ y)).map .val := (rfl)
theorem bx_max {x y ts ρ H} : biA P .max [x, y] ts ρ H = (maxA (ρ x) (ρ y)).map .val := (rfl)
theorem minA_int {k k' a b} : minA (.int k a) (.int k' b) = some (.int k (if b < a then b else a)) := (rfl)
theorem maxA_int {k k' a b} : maxA (.int k a) (.int k' b) = some (.int k (if b > a then b else a)) := (rfl)
end

section
variable {P : Program} {k : IntKind} {a b : Int} {t : TypeId}
theorem bin_add : binA P .add t (.int k a) (.int k b) = some (.int k (k.wrap (a + b))) := by simp [binA, intBin]
theorem bin_sub : binA P .sub t (.int k a) (.int k b) = some (.int k (k.wrap (a - b))) := by simp [binA, intBin]
theorem bin_mul : binA P .mul t (.int k a) (.int k b) = some (.int k (k.wrap (a * b))) := by simp [binA, intBin]
theorem bin_quo : binA P .quo t (.int k a) (.int k b) = if b = 0 then none else some (.int k (k.wrap (a.tdiv b))) := by simp [binA, intBin]
theorem bin_rem : binA P .rem t (.int k a) (.int k b) = if b = 0 then none else some (.int k (a.tmod b)) := by simp [binA, intBin]
def bitAnd (k : IntKind) (a b : Int) : Int := k.wrap (BitVec.ofInt k.bits a &&& BitVec.ofInt k.bits b).toNat
def bitOr (k : IntKind) (a b : Int) : Int := k.wrap (BitVec.ofInt k.bits a ||| BitVec.ofInt k.bits b).toNat
def bitXor (k : IntKind) (a b : Int) : Int := k.wrap (BitVec.ofInt k.bits a ^^^ BitVec.ofInt k.bits b).toNat
theorem bin_and : binA P .and t (.int k a) (.int k b) = some (.int k (bitAnd k a b)) := by simp [binA, intBin, bitAnd]
theorem bin_or : binA P .or t (.int k a) (.int k b) = some (.int k (bitOr k a b)) := by simp [binA, intBin, bitOr]
theorem bin_xor : binA P .xor t (.int k a) (.int k b) = some (.int k (bitXor k a b)) := by simp [binA, intBin, bitXor]
theorem bin_eql : binA P .eql t (.int k a) (.int k b) = some (.bool (decide (a = b))) := by simp [binA, intBin]
theorem bin_neq : binA P .neq t (.int k a) (.int k b) = some (.bool (!decide (a = b))) := by simp [binA, intBin]
theorem bin_lss : binA P .lss t (.int k a) (.int k b) = some (.bool (decide (a < b))) := by simp [binA, intBin]
theorem bin_leq : binA P .leq t (.int k a) (.int k b) = some (.bool (decide (a ≤ b))) := by simp [binA, intBin]
theorem bin_gtr : binA P .gtr t (.int k a) (.int k b) = some (.bool (decide (b < a))) := by simp [binA, intBin]
theorem bin_geq : binA P .geq t (.int k a) (.int k b) = some (.bool (decide (b ≤ a))) := by simp [binA, intBin]
theorem bin_shl {k'} : binA P .shl t (.int k a) (.int k' b) = if b < 0 then none else some (.int k (k.wrap (a * 2 ^ (min b.toNat k.bits)))) := (rfl)
theorem bin_shr {k'} : binA P .shr t (.int k a) (.int k' b) = if b < 0 then none else some (.int k (a.fdiv (2 ^ (min b.toNat k.bits)))) := (rfl)
variable {x y : List UInt8}
theorem bin_sadd : binA P .add t (.str x) (.str y) = if x.length + y.length ≤ 4611686018427387904 then some (.str (x ++ y)) else none := (rfl)
theorem bin_seql : binA P .eql t (.str x) (.str y) = some (.bool (decide (x = y))) := (rfl)
theorem bin_sneq : binA P .neq t (.str x) (.str y) = some (.bool (!decide (x = y))) := (rfl)
theorem bin_slss : binA P .lss t (.str x) (.str y) = some (.bool (Op.bytesLess x y)) := (rfl)
theorem bin_sgtr : binA P .gtr t (.str x) (.str y) = some (.bool (!(Op.bytesLess x y || decide (x = y)))) := (rfl)
theorem bin_sleq : binA P .leq t (.str x) (.str y) = some (.bool (Op.bytesLess x y || decide (x = y))) := (rfl)
theorem bin_sgeq : binA P .geq t (.str x) (.str y) = some (.bool (!Op.bytesLess x y)) := (rfl)
theorem bin_eqlA {u v : List AV} : binA P .eql t (.agg u) (.agg v) = (eqA P t (.agg u) (.agg v)).map .bool := (rfl)
theorem bin_neqA {u v : List AV} : binA P .neq t (.agg u) (.agg v) = (eqA P t (.agg u) (.agg v)).map fun b => .bool (!b) := (rfl)
theorem bin_eqlB {u v : Bool} : binA P .eql t (.bool u) (.bool v) = (eqA P t (.bool u) (.bool v)).map .bool := (rfl)
theorem bin_neqB {u v : Bool} : binA P .neq t (.bool u) (.bool v) = (eqA P t (.bool u) (.bool v)).map fun b => .bool (!b) := (rfl)
theorem un_neg : unA .neg (.int k a) = some (.int k (k.wrap (0 - a))) := (rfl)
theorem un_xor : unA .xor (.int k a) = some (.int k (k.wrap (BitVec.ofInt k.bits (if k.signed then -1 else k.max) ^^^ BitVec.ofInt k.bits a).toNat)) := (rfl)
theorem un_not {b : Bool} : unA .not (.bool b) = some (.bool !b) := (rfl)
end
attribute [congr] condP_congr guardP_congr run_congr sx_congr runOp_congr outP_congr callP_congr runR_congr outV_congr
attribute [irreducible] outV outP run runR runOp guardP condP callP callV sx
end Go.Ab

/- The equations by which simp steps: values, memory. -/
namespace Go.Ab
open Go.RowKit

section cells
variable {cs : List AV} {k : IntKind} {n : Int} {b : Bool} {l : List UInt8} {xs : List AV}
theorem cells_agg : (AV.agg cs).cells = cs := (rfl)
theorem cells_int : (AV.int k n).cells = [.int k n] := (rfl)
theorem cells_bool : (AV.bool b).cells = [.bool b] := (rfl)
theorem cells_str : (AV.str l).cells = [.str l] := (rfl)
theorem cells_lst : (AV.lst xs).cells = [.lst xs] := (rfl)
theorem cells_nil : AV.nil.cells = [.nil] := (rfl)
theorem cells_ref {i g o m} : (AV.ref i g o m).cells = [.ref i g o m] := (rfl)
theorem cells_ptr {i g o m} : (AV.ptr i g o m).cells = [.ptr i g o m] := (rfl)
theorem cells_dptr : (AV.dptr cs).cells = [.dptr cs] := (rfl)
theorem cells_func {f caps} : (AV.func f caps).cells = [.func f caps] := (rfl)
theorem isCell_int : (AV.int k n).isCell = true := (rfl)
theorem isCell_bool : (AV.bool b).isCell = true := (rfl)
theorem isCell_str : (AV.str l).isCell = true := (rfl)
theorem isCell_lst : (AV.lst xs).isCell = true := (rfl)
theorem isCell_nil : AV.nil.isCell = true := (rfl)
theorem isCell_ref {i g o m} : (AV.ref i g o m).isCell = true := (rfl)
theorem isCell_ptr {i g o m} : (AV.ptr i g o m).isCell = true := (rfl)
theorem isCell_dptr : (AV.dptr cs).isCell = true := (rfl)
theorem isCell_func {f caps} : (AV.func f caps).isCell = true := (rfl)
theorem fits_eq {m : Nat} {v : AV} : v.fits m = (v.cells.length == m && v.cells.all AV.isCell) := (rfl)
theorem isDc_int : isDc (.int k n) = true := (rfl)
theorem isDc_bool : isDc (.bool b) = true := (rfl)
theorem isDc_str : isDc (.str l) = true := (rfl)
theorem isDc_lst : isDc (.lst xs) = true := (rfl)
theorem isDc_dptr : isDc (.dptr xs) = true := (rfl)
theorem isDc_undef : isDc .undef = true := (rfl)
theorem isDc_nil : isDc .nil = false := (rfl)
theorem isDc_ref {i g o m} : isDc (.ref i g o m) = false := (rfl)
theorem isDc_ptr {i g o m} : isDc (.ptr i g o m) = false := (rfl)
theorem isDc_func {f caps} : isDc (.func f caps) = caps.isEmpty := (rfl)
theorem isD_agg : isD (.agg cs) = cs.all isDc := (rfl)
theorem isD_int : isD (.int k n) = true := (rfl)
theorem isD_bool : isD (.bool b) = true := (rfl)
theorem isD_str : isD (.str l) = true := (rfl)
theorem isD_lst : isD (.lst xs) = true := (rfl)
theorem isD_nil : isD .nil = false := (rfl)
theorem isD_ref {i g o m} : isD (.ref i g o m) = false := (rfl)
end cells

section mem
variable {P : Program} {H : Heap} {i g off len sz n : Nat} {els : List AV} {ow : Bool} {t e : TypeId}
def cellsE (o : Option AV) (off : Nat) : Option (List AV) :=
  match o with
  | some el => if off ≤ el.cells.length then some (el.cells.drop off) else none
  | none => none
def cellsB (b : Option Blk) (g i off : Nat) : Option (List AV) :=
  match b with
  | some B => if B.gen = g then cellsE B.els[i]? off else none
  | none => none
theorem cellsAt_ptr {id : Nat} : cellsAt H (.ptr id g i off) = cellsB (H id) g i off := by
  unfold cellsAt cellsB cellsE; try rfl
theorem cellsAt_dptr {cs} : cellsAt H (.dptr cs) = some cs := (rfl)
theorem cellsB_some {g'} : cellsB (some ⟨sz, els, g', ow⟩) g i off = if g' = g then cellsE els[i]? off else none := (rfl)
theorem cellsE_some {el : AV} : cellsE (some el) off = if off ≤ el.cells.length then some (el.cells.drop off) else none := (rfl)

def loadT (ag : Option Bool) (sz : Option Nat) (cells : List AV) : Option AV :=
  match ag with
  | none => none
  | some true => match sz with
    | some n => if n ≤ cells.length then some (.agg (cells.take n)) else none
    | none => none
  | some false => cells[0]?
theorem loadA_eq {cells} : loadA P t cells = loadT (aggT P t) (csz P t) cells := by unfold loadA loadT; rfl
theorem loadT_true {cells} : loadT (some true) (some n) cells = if n ≤ cells.length then some (.agg (cells.take n)) else none := (rfl)
theorem loadT_false {s} {cells} : loadT (some false) s cells = cells[0]? := (rfl)
theorem partA_eq {cells} : partA P t cells off = if off ≤ cells.length then loadA P t (cells.drop off) else none := (rfl)

def aliveB (b : Option Blk) (g : Nat) : Bool :=
  match b with
  | some B => B.gen == g
  | none => false
theorem alive_eq {id : Nat} : alive H id g = aliveB (H id) g := by unfold alive aliveB; rfl
theorem aliveB_some {g'} : aliveB (some ⟨sz, els, g', ow⟩) g = (g' == g) := (rfl)
def refB (b : Option Blk) (g off len : Nat) : Option (Nat × List AV) :=
  match b with
  | some B => if B.gen = g then (if off + len ≤ B.els.length then some (B.sz, (B.els.drop off).take len) else none) else none
  | none => none
theorem refEls_eq {id : Nat} : refEls H id g off len = refB (H id) g off len := by unfold refEls refB; rfl
theorem refB_some {g'} : refB (some ⟨sz, els, g', ow⟩) g off len = if g' = g then (if off + len ≤ els.length then some (sz, (els.drop off).take len) else none) else none := (rfl)

def storeE (sz g off n : Nat) (els : List AV) (ow : Bool) (id i : Nat) (v : AV) (o : Option AV) : Option Out :=
  match o with
  | some el => if v.fits n = true ∧ off + n ≤ el.cells.length ∧ 0 < n then some (.wr .undef id ⟨sz, els.set i (setCells el off v.cells), g, ow⟩) else none
  | none => none
def storeB (b : Option Blk) (n : Option Nat) (id g i off : Nat) (v : AV) : Option Out :=
  match b, n with
  | some B, some n => if B.gen = g ∧ B.own = true then storeE B.sz B.gen off n B.els B.own id i v B.els[i]? else none
  | _, _ => none
theorem storeA_ptr {id : Nat} {v} : storeA P t H (.ptr id g i off) v = storeB (H id) (csz P t) id g i off v := by
  unfold storeA storeB
  simp only
  split
  · rename_i B n h1 h2
    rw [h1, h2]
    simp only
    split
    · unfold storeE; rfl
    · rfl
  · rename_i hno
    split
    · rename_i B n h1 h2; exact absurd h2 (hno B n h1)
    · rfl
theorem storeB_some {id : Nat} {g'} {v} : storeB (some ⟨sz, els, g', true⟩) (some n) id g i off v = if g' = g then storeE sz g' off n els true id i v els[i]? else none := by
  simp [storeB]
theorem storeE_some {id : Nat} {v el} : storeE sz g off n els ow id i v (some el) = if v.fits n = true ∧ off + n ≤ el.cells.length ∧ 0 < n then some (.wr .undef id ⟨sz, els.set i (setCells el off v.cells), g, ow⟩) else none := (rfl)
theorem setCells_agg {cs vs} : setCells (.agg cs) off vs = .agg (cs.take off ++ vs ++ cs.drop (off + vs.length)) := (rfl)
theorem setCells_int {k m v} : setCells (.int k m) off [v] = v := (rfl)
theorem setCells_bool {m v} : setCells (.bool m) off [v] = v := (rfl)
theorem setCells_str {m v} : setCells (.str m) off [v] = v := (rfl)
theorem setCells_nil {v} : setCells .nil off [v] = v := (rfl)
theorem setCells_ref {a b c d v} : setCells (.ref a b c d) off [v] = v := (rfl)
theorem setCells_lst {m v} : setCells (.lst m) off [v] = v := (rfl)

theorem nilCheck_ptr {id : Nat} : nilCheckA H (.ptr id g i off) = if aliveB (H id) g = true then some (.ptr id g i off) else none := by simp only [nilCheckA, alive_eq]
theorem nilCheck_dptr {cs} : nilCheckA H (.dptr cs) = some (.dptr cs) := (rfl)

def fieldQ (P : Program) (H : Heap) (x : AV) (y : Option (TypeId × Nat)) : Option AV :=
  match y with
  | some (ft, off) => match csz P ft with
    | some (_ + 1) => match x with
      | .ptr id g i o => if alive H id g then some (.ptr id g i (o + off)) else none
      | .dptr cs => if off ≤ cs.length then some (.dptr (cs.drop off)) else none
      | _ => none
    | _ => none
  | none => none
def fieldK (P : Program) (k : TK) (H : Heap) (x : AV) (f : Nat) : Option AV :=
  match k with
  | .struct fs => fieldQ P H x fs[f]?
  | _ => none
theorem fieldAddr_eq {x f} : fieldAddrA P t H x f = fieldK P (tk P t) H x f := by unfold fieldAddrA fieldK fieldQ; rfl
theorem fieldK_eq {fs x f} : fieldK P (.struct fs) H x f = fieldQ P H x fs[f]? := (rfl)
def fieldZ (H : Heap) (c : Option Nat) (x : AV) (off : Nat) : Option AV :=
  match c with
  | some (_ + 1) => match x with
    | .ptr id g i o => if aliveB (H id) g then some (.ptr id g i (o + off)) else none
    | .dptr cs => if off ≤ cs.length then some (.dptr (cs.drop off)) else none
    | _ => none
  | _ => none
theorem fieldQ_some {x ft} : fieldQ P H x (some (ft, off)) = fieldZ H (csz P ft) x off := by
  unfold fieldQ fieldZ
  simp only [alive_eq]
theorem fieldZ_ptr {id o} : fieldZ H (some (n + 1)) (.ptr id g i o) off = if aliveB (H id) g = true then some (.ptr id g i (o + off)) else none := (rfl)
theorem fieldZ_dptr {cs} : fieldZ H (some (n + 1)) (.dptr cs) off = if off ≤ cs.length then some (.dptr (cs.drop off)) else none := (rfl)

def idxT (P : Program) (H : Heap) (k : TK) (x : AV) (i : Int) : Option AV :=
  match k with
  | .slice e => match x with
    | .lst xs => if 0 ≤ i then (match xs[i.toNat]? with
      | some el => if csz P e = some el.cells.length then some (.dptr el.cells) else none
      | none => none) else none
    | .ref id g off len => match refEls H id g off len with
      | some (sz, _) => if 0 ≤ i ∧ i < len ∧ csz P e = some sz then some (.ptr id g (off + i.toNat) 0) else none
      | none => none
    | _ => none
  | .arr n e => if 0 ≤ i ∧ i < n then (match csz P e with
    | some sz => match x with
      | .ptr id g j o => if alive H id g then some (.ptr id g j (o + i.toNat * sz)) else none
      | .dptr cs => if i.toNat * sz ≤ cs.length then some (.dptr (cs.drop (i.toNat * sz))) else none
      | _ => none
    | none => none) else none
  | _ => none
theorem indexAddr_eq {x k i} : indexAddrA P t H x (.int k i) = idxT P H (tk P t) x i := by unfold indexAddrA idxT; rfl
def idxL (c : Option Nat) (o : Option AV) : Option AV :=
  match o with
  | some el => if c = some el.cells.length then some (.dptr el.cells) else none
  | none => none
theorem idx_lst {xs i} : idxT P H (.slice e) (.lst xs) i = if 0 ≤ i then idxL (csz P e) xs[i.toNat]? else none := by simp only [idxT, idxL]
theorem idxL_some {c el} : idxL c (some el) = if c = some el.cells.length then some (.dptr el.cells) else none := (rfl)
def idxR (c : Option Nat) (id g off len : Nat) (i : Int) (o : Option (Nat × List AV)) : Option AV :=
  match o with
  | some (sz, _) => if 0 ≤ i ∧ i < len ∧ c = some sz then some (.ptr id g (off + i.toNat) 0) else none
  | none => none
theorem idx_ref {id : Nat} {i : Int} : idxT P H (.slice e) (.ref id g off len) i = idxR (csz P e) id g off len i (refB (H id) g off len) := by simp only [idxT, idxR, refEls_eq]
theorem idxR_some {c id i xs} : idxR c id g off len i (some (sz, xs)) = if 0 ≤ i ∧ i < len ∧ c = some sz then some (.ptr id g (off + i.toNat) 0) else none := (rfl)
theorem idx_arr_ptr {id o} {i : Int} : idxT P H (.arr n e) (.ptr id g len o) i = if 0 ≤ i ∧ i < n then (match csz P e with
    | some sz => if aliveB (H id) g = true then some (.ptr id g len (o + i.toNat * sz)) else none
    | none => none) else none := by simp only [idxT, alive_eq]
theorem idx_arr_dptr {cs} {i : Int} : idxT P H (.arr n e) (.dptr cs) i = if 0 ≤ i ∧ i < n then (match csz P e with
    | some sz => if i.toNat * sz ≤ cs.length then some (.dptr (cs.drop (i.toNat * sz))) else none
    | none => none) else none := (rfl)

def idxS (o : Option UInt8) : Option AV :=
  match o with
  | some b => some (.int .u8 b.toNat)
  | none => none
theorem idxS_some {b} : idxS (some b) = some (.int .u8 b.toNat) := (rfl)
def idxV (P : Program) (k : TK) (x : AV) (i : Int) : Option AV :=
  match x with
  | .str l => match k with
    | .str => if 0 ≤ i then idxS l[i.toNat]? else none
    | _ => none
  | .agg cs => match k with
    | .arr n e => match csz P e with
      | some sz => if 0 ≤ i ∧ i < n then partA P e cs (i.toNat * sz) else none
      | none => none
    | _ => none
  | _ => none
theorem index_eq {x k i} : indexA P t x (.int k i) = idxV P (tk P t) x i := by
  simp only [indexA, idxV, idxS]
  cases x <;> first | rfl | (cases tk P t <;> rfl)
theorem idxV_str {l i} : idxV P .str (.str l) i = if 0 ≤ i then idxS l[i.toNat]? else none := (rfl)

def lenK (H : Heap) (k : TK) (x : AV) : Option AV :=
  match k with
  | .str => match x with
    | .str l => some (.int .i64 l.length)
    | _ => none
  | .arr n _ => some (.int .i64 n)
  | .slice _ => match x with
    | .nil => some (.int .i64 0)
    | .lst xs => some (.int .i64 xs.length)
    | .ref id g off len => if (refB (H id) g off len).isSome then some (.int .i64 len) else none
    | _ => none
  | _ => none
theorem lenA_eq {x} : lenA P t H x = lenK H (tk P t) x := by
  simp only [lenA, lenK, refEls_eq]
  try (cases tk P t <;> cases x <;> rfl)
theorem len_str {l} : lenK H .str (.str l) = some (.int .i64 l.length) := (rfl)
theorem len_arr {x} : lenK H (.arr n e) x = some (.int .i64 n) := (rfl)
theorem len_nil : lenK H (.slice e) .nil = some (.int .i64 0) := (rfl)
theorem len_lst {xs} : lenK H (.slice e) (.lst xs) = some (.int .i64 xs.length) := (rfl)
theorem len_ref {id} : lenK H (.slice e) (.ref id g off len) = if (refB (H id) g off len).isSome = true then some (.int .i64 len) else none := (rfl)
theorem extract_eq {vs} : extractA (.tup vs) i = vs[i]? := (rfl)

theorem src_nil : srcEls H n .nil = some [] := (rfl)
theorem src_lst {xs} : srcEls H n (.lst xs) = if xs.all (·.fits n) = true then some xs else none := (rfl)
def srcR (n : Nat) (o : Option (Nat × List AV)) : Option (List AV) :=
  match o with
  | some (sz, xs) => if sz = n ∨ xs = [] then some xs else none
  | none => none
theorem src_ref {id} : srcEls H n (.ref id g off len) = srcR n (refB (H id) g off len) := by
  simp only [srcEls, srcR, refEls_eq]
  try (cases refB (H id) g off len <;> rfl)
theorem srcR_same {xs} : srcR n (some (n, xs)) = some xs := by simp [srcR]
theorem src_str {l} : srcEls H 1 (.str l) = some (bytesA l) := (rfl)

def appS (n by_ : Nat) (H : Heap) (s : AV) (o : Option (List AV)) : Option Out :=
  match o with
  | some new => match s with
    | .nil => if new = [] then some (.val .nil) else if roomOk new.length by_ then some (.new ⟨n, new, 0, true⟩ fun id g => .ref id g 0 new.length) else none
    | .ref id g off len => match H id with
      | some B => if B.gen = g ∧ B.own = true ∧ B.sz = n ∧ off + len = B.els.length ∧ roomOk (len + new.length) by_ = true then
          some (.wr (.ref id (g + 1) 0 (len + new.length)) id ⟨n, B.els.drop off ++ new, g + 1, true⟩) else none
      | none => none
    | _ => none
  | none => none
def appK (P : Program) (k : TK) (H : Heap) (s x : AV) : Option Out :=
  match k with
  | .slice e => match csz P e, bsz P e, zro P e with
    | some n, some by_, some z => if 0 < n ∧ z.cells.length = n then appS n by_ H s (srcEls H n x) else none
    | _, _, _ => none
  | _ => none
theorem appendA_eq {s x} : appendA P t H s x = appK P (tk P t) H s x := by unfold appendA appK appS; rfl
def appZ (n by_ : Option Nat) (z : Option AV) (H : Heap) (s x : AV) : Option Out :=
  match n, by_, z with
  | some n, some by_, some z => if 0 < n ∧ z.cells.length = n then appS n by_ H s (srcEls H n x) else none
  | _, _, _ => none
theorem appK_eq {s x} : appK P (.slice e) H s x = appZ (csz P e) (bsz P e) (zro P e) H s x := (rfl)
theorem appZ_some {n by_ z s x} : appZ (some n) (some by_) (some z) H s x = if 0 < n ∧ z.cells.length = n then appS n by_ H s (srcEls H n x) else none := (rfl)
theorem appS_nil {n by_ new} : appS n by_ H .nil (some new) = if new = [] then some (.val .nil) else if roomOk new.length by_ = true then some (.new ⟨n, new, 0, true⟩ fun id g => .ref id g 0 new.length) else none := (rfl)
def appB (b : Option Blk) (n by_ id g off len : Nat) (new : List AV) : Option Out :=
  match b with
  | some B => if B.gen = g ∧ B.own = true ∧ B.sz = n ∧ off + len = B.els.length ∧ roomOk (len + new.length) by_ = true then
      some (.wr (.ref id (g + 1) 0 (len + new.length)) id ⟨n, B.els.drop off ++ new, g + 1, true⟩) else none
  | none => none
theorem appS_ref {n by_ id new} : appS n by_ H (.ref id g off len) (some new) = appB (H id) n by_ id g off len new := (rfl)
theorem appB_some {n by_ id g' new} : appB (some ⟨sz, els, g', true⟩) n by_ id g off len new = if g' = g ∧ sz = n ∧ off + len = els.length ∧ roomOk (len + new.length) by_ = true then
      some (.wr (.ref id (g + 1) 0 (len + new.length)) id ⟨n, els.drop off ++ new, g + 1, true⟩) else none := by simp [appB]
theorem roomOk_eq {n by_} : roomOk n by_ = (decide (n ≤ 4611686018427387904) && decide (n * by_ ≤ 140737488355328)) := (rfl)

def mkK (P : Program) (k : TK) (n m : Int) : Option Out :=
  match k with
  | .slice e => match csz P e, bsz P e, zro P e with
    | some sz, some by_, some z => if 0 ≤ n ∧ n ≤ m ∧ roomOk m.toNat by_ = true ∧ z.fits sz = true ∧ 0 < sz then some (.new ⟨sz, List.replicate n.toNat z, 0, true⟩ fun id g => .ref id g 0 n.toNat) else none
    | _, _, _ => none
  | _ => none
theorem makeSlice_eq {n m} : makeSliceA P t (.int .i64 n) (.int .i64 m) = mkK P (tk P t) n m := by
  simp only [makeSliceA, mkK]
  cases tk P t with
  | slice e =>
    simp only [true_and]
    cases csz P e <;> cases bsz P e <;> cases zro P e <;> rfl
  | _ => rfl
def mkZ (n by_ : Option Nat) (z : Option AV) (l m : Int) : Option Out :=
  match n, by_, z with
  | some sz, some by_, some z => if 0 ≤ l ∧ l ≤ m ∧ roomOk m.toNat by_ = true ∧ z.fits sz = true ∧ 0 < sz then some (.new ⟨sz, List.replicate l.toNat z, 0, true⟩ fun id g => .ref id g 0 l.toNat) else none
  | _, _, _ => none
theorem mkK_eq {l m} : mkK P (.slice e) l m = mkZ (csz P e) (bsz P e) (zro P e) l m := (rfl)
theorem mkZ_some {by_ z l m} : mkZ (some sz) (some by_) (some z) l m = if 0 ≤ l ∧ l ≤ m ∧ roomOk m.toNat by_ = true ∧ z.fits sz = true ∧ 0 < sz then some (.new ⟨sz, List.replicate l.toNat z, 0, true⟩ fun id g => .ref id g 0 l.toNat) else none := (rfl)

theorem copyA_ref {x id e} (h : tk P t = .slice e) : copyA P t H (.ref id g off len) x = match csz P e with
    | some n => match srcEls H n x with
      | some src => match H id with
        | some B => if B.gen = g ∧ B.own = true ∧ B.sz = n ∧ off + len ≤ B.els.length then
            some (.wr (.int .i64 (min src.length len : Nat)) id ⟨n, B.els.take off ++ src.take (min src.length len) ++ B.els.drop (off + min src.length len), g, true⟩) else none
        | none => none
      | none => none
    | none => none := by
  unfold copyA; rw [h]; rfl

section sl
variable {ρ : Operand → AV} {lo hi mx : Option Operand}
def bndV (d : Nat) (v : Option AV) : Option Int :=
  match v with
  | none => some d
  | some (.int _ n) => some n
  | _ => none
theorem bnd_none {d} : bndA ρ d none = some (d : Int) := (rfl)
def bndI (v : AV) : Option Int :=
  match v with
  | .int _ n => some n
  | _ => none
theorem bnd_some {d x} : bndA ρ d (some x) = bndI (ρ x) := by unfold bndA bndI; rfl
theorem bndI_int {k n} : bndI (.int k n) = some n := (rfl)
def slS (l : List UInt8) (a b : Option Int) : Option AV :=
  match a, b with
  | some a, some b => if 0 ≤ a ∧ a ≤ b ∧ b ≤ l.length then some (.str ((l.drop a.toNat).take (b - a).toNat)) else none
  | _, _ => none
theorem slS_some {l a b} : slS l (some a) (some b) = if 0 ≤ a ∧ a ≤ b ∧ b ≤ l.length then some (.str ((l.drop a.toNat).take (b - a).toNat)) else none := (rfl)
def slL (c : Option Nat) (xs : List AV) (a b : Option Int) : Option AV :=
  match a, b with
  | some a, some b => if 0 ≤ a ∧ a ≤ b ∧ b ≤ xs.length ∧ c ≠ none ∧ xs.all (fun x => c == some x.cells.length) then some (.lst ((xs.drop a.toNat).take (b - a).toNat)) else none
  | _, _ => none
theorem slL_some {c xs a b} : slL (some c) xs (some a) (some b) = if 0 ≤ a ∧ a ≤ b ∧ b ≤ xs.length ∧ xs.all (fun x => some c == some x.cells.length) = true then some (.lst ((xs.drop a.toNat).take (b - a).toNat)) else none := by simp [slL]
def slR (c : Option Nat) (id g off len : Nat) (o : Option (Nat × List AV)) (a b : Option Int) : Option AV :=
  match o, a, b with
  | some (sz, _), some a, some b => if 0 ≤ a ∧ a ≤ b ∧ b ≤ len ∧ c = some sz then some (.ref id g (off + a.toNat) (b - a).toNat) else none
  | _, _, _ => none
theorem slR_some {id xs a b c} : slR (some c) id g off len (some (sz, xs)) (some a) (some b) = if 0 ≤ a ∧ a ≤ b ∧ b ≤ len ∧ c = sz then some (.ref id g (off + a.toNat) (b - a).toNat) else none := by simp [slR]
def slK (P : Program) (k : TK) (H : Heap) (ρ : Operand → AV) (x : AV) (lo hi : Option Operand) : Option AV :=
  match k with
  | .str => match x with
    | .str l => slS l (bndA ρ 0 lo) (bndA ρ l.length hi)
    | _ => none
  | .slice e => match x with
    | .lst xs => slL (csz P e) xs (bndA ρ 0 lo) (bndA ρ xs.length hi)
    | .ref id g off len => slR (csz P e) id g off len (refB (H id) g off len) (bndA ρ 0 lo) (bndA ρ len hi)
    | _ => none
  | _ => none
theorem slice_eq {x} : sliceA P t H ρ x lo hi none = slK P (tk P t) H ρ x lo hi := by
  simp only [sliceA, slK, slS, slL, slR, refEls_eq]
  try (cases tk P t <;> cases x <;> rfl)
theorem slK_str {l} : slK P .str H ρ (.str l) lo hi = slS l (bndA ρ 0 lo) (bndA ρ l.length hi) := (rfl)
theorem slK_lst {xs} : slK P (.slice e) H ρ (.lst xs) lo hi = slL (csz P e) xs (bndA ρ 0 lo) (bndA ρ xs.length hi) := (rfl)
theorem slK_ref {id} : slK P (.slice e) H ρ (.ref id g off len) lo hi = slR (csz P e) id g off len (refB (H id) g off len) (bndA ρ 0 lo) (bndA ρ len hi) := (rfl)
end sl

section cv
variable {src dst : TypeId}
def cvI (a b : TK) (n : Int) : Option Out :=
  match a, b with
  | .int _, .int k => some (.val (.int k (k.wrap n)))
  | _, _ => none
theorem conv_int {k n} : convA P src dst H (.int k n) = cvI (tk P src) (tk P dst) n := by
  simp only [convA, cvI]
  try (cases tk P src <;> cases tk P dst <;> rfl)
theorem cvI_eq {j k n} : cvI (.int j) (.int k) n = some (.val (.int k (k.wrap n))) := (rfl)
def cvS (P : Program) (a b : TK) (l : List UInt8) : Option Out :=
  match a, b with
  | .str, .str => some (.val (.str l))
  | .str, .slice e => match tk P e with
    | .int .u8 => some (.new ⟨1, bytesA l, 0, true⟩ fun id g => .ref id g 0 l.length)
    | _ => none
  | _, _ => none
theorem conv_str {l} : convA P src dst H (.str l) = cvS P (tk P src) (tk P dst) l := by
  simp only [convA, cvS]
  cases tk P src <;> first | rfl | (cases tk P dst <;> rfl)
theorem cvS_str {l} : cvS P .str .str l = some (.val (.str l)) := (rfl)
theorem cvS_bytes {l} (h : tk P e = .int .u8) : cvS P .str (.slice e) l = some (.new ⟨1, bytesA l, 0, true⟩ fun id g => .ref id g 0 l.length) := by simp [cvS, h]
def cvB (o : Option (List AV)) : Option Out :=
  match o with
  | some els => (unbytes els).map fun l => .val (.str l)
  | none => none
theorem conv_lst {xs} (h1 : tk P src = .slice e) (h2 : tk P dst = .str) (h3 : tk P e = .int .u8) : convA P src dst H (.lst xs) = cvB (srcEls H 1 (.lst xs)) := by
  simp only [convA, cvB, h1, h2, h3]
  try (cases srcEls H 1 (.lst xs) <;> rfl)
theorem conv_ref {id} (h1 : tk P src = .slice e) (h2 : tk P dst = .str) (h3 : tk P e = .int .u8) : convA P src dst H (.ref id g off len) = cvB (srcEls H 1 (.ref id g off len)) := by
  simp only [convA, cvB, h1, h2, h3]
  try (cases srcEls H 1 (.ref id g off len) <;> rfl)
theorem conv_nil (h1 : tk P src = .slice e) (h2 : tk P dst = .str) (h3 : tk P e = .int .u8) : convA P src dst H .nil = cvB (srcEls H 1 .nil) := by
  simp only [convA, cvB, h1, h2, h3]
  try (cases srcEls H 1 .nil <;> rfl)
theorem cvB_some {els} : cvB (some els) = (unbytes els).map fun l => .val (.str l) := (rfl)
theorem unbytes_bytes (l : List UInt8) : unbytes (bytesA l) = some l := by
  induction l with
  | nil => rfl
  | cons b l ih => simp only [bytesA, List.map_cons, unbytes] at ih ⊢; rw [ih]; simp
end cv
end mem
end Go.Ab

/- The equations by which simp steps: calls, results; the set itself. -/
namespace Go.Ab
open Go.RowKit

section
variable {P : Program} {s : St} {K : St → Prop} {G : Option (Nat → Nat)} {sl : Nat} {d : Option Tmp} {H : Heap} {ro : Bool}
theorem dval_eq {x} : dval ro H x = de (dc ro H 6) x := (rfl)
theorem de_agg {f cs} : de f (.agg cs) = (dcs f cs).map .agg := (rfl)
theorem de_int {f k n} : de f (.int k n) = f (.int k n) := (rfl)
theorem de_bool {f n} : de f (.bool n) = f (.bool n) := (rfl)
theorem de_str {f n} : de f (.str n) = f (.str n) := (rfl)
theorem de_lst {f n} : de f (.lst n) = f (.lst n) := (rfl)
theorem de_dptr {f n} : de f (.dptr n) = f (.dptr n) := (rfl)
theorem de_nil {f} : de f .nil = f .nil := (rfl)
theorem de_ref {f a b c e} : de f (.ref a b c e) = f (.ref a b c e) := (rfl)
theorem de_ptr {f a b c e} : de f (.ptr a b c e) = f (.ptr a b c e) := (rfl)
theorem de_func {f a b} : de f (.func a b) = f (.func a b) := (rfl)
theorem dc_int {n k m} : dc ro H (n + 1) (.int k m) = some (.int k m) := (rfl)
theorem dc_bool {n m} : dc ro H (n + 1) (.bool m) = some (.bool m) := (rfl)
theorem dc_str {n m} : dc ro H (n + 1) (.str m) = some (.str m) := (rfl)
theorem dc_lst {n m} : dc ro H (n + 1) (.lst m) = some (.lst m) := (rfl)
theorem dc_dptr {n m} : dc ro H (n + 1) (.dptr m) = some (.dptr m) := (rfl)
theorem dc_nil {n} : dc ro H (n + 1) .nil = some (.lst []) := (rfl)
def dcR (f : AV → Option AV) (ro : Bool) (b : Option Blk) (g off len : Nat) : Option AV :=
  match b with
  | some B => if B.gen = g ∧ off + len ≤ B.els.length ∧ (ro = true → B.own = false) then (dl f ((B.els.drop off).take len)).map .lst else none
  | none => none
theorem dc_ref {n id g off len} : dc ro H (n + 1) (.ref id g off len) = dcR (dc ro H n) ro (H id) g off len := by
  simp only [dc, dcR]
  try (cases H id <;> rfl)
theorem dcR_some {f sz els g' ow g off len} : dcR f ro (some ⟨sz, els, g', ow⟩) g off len = if g' = g ∧ off + len ≤ els.length ∧ (ro = true → ow = false) then (dl f ((els.drop off).take len)).map .lst else none := (rfl)
def dcP (f : AV → Option AV) (ro : Bool) (b : Option Blk) (g i off : Nat) : Option AV :=
  match b with
  | some B => if B.gen = g ∧ (ro = true → B.own = false) then (match B.els[i]? with
    | some el => if off ≤ el.cells.length then (dcs f (el.cells.drop off)).map .dptr else none
    | none => none) else none
  | none => none
theorem dc_ptr {n id g i off} : dc ro H (n + 1) (.ptr id g i off) = dcP (dc ro H n) ro (H id) g i off := by
  simp only [dc, dcP]
  try (cases H id <;> rfl)
def dcE (f : AV → Option AV) (o : Option AV) (off : Nat) : Option AV :=
  match o with
  | some el => if off ≤ el.cells.length then (dcs f (el.cells.drop off)).map .dptr else none
  | none => none
theorem dcP_some {f sz els g' ow g i off} : dcP f ro (some ⟨sz, els, g', ow⟩) g i off = if g' = g ∧ (ro = true → ow = false) then dcE f els[i]? off else none := (rfl)
theorem dcE_some {f el off} : dcE f (some el) off = if off ≤ el.cells.length then (dcs f (el.cells.drop off)).map .dptr else none := (rfl)
theorem dcs_eq {f cs} : dcs f cs = if cs.all isDc = true then some cs else cs.mapM f := (rfl)
theorem dl_eq {f xs} : dl f xs = if xs.all isD = true then some xs else xs.mapM (de f) := (rfl)
theorem mapM_none {f : AV → Option AV} : ([] : List AV).mapM f = some [] := (rfl)
def consO (x : Option AV) (xs : Option (List AV)) : Option (List AV) :=
  match x, xs with
  | some x, some xs => some (x :: xs)
  | _, _ => none
theorem mapM_more {f : AV → Option AV} {x xs} : (x :: xs).mapM f = consO (f x) (xs.mapM f) := by
  rw [List.mapM_cons]
  try (cases f x <;> cases xs.mapM f <;> rfl)
theorem consO_some {x xs} : consO (some x) (some xs) = some (x :: xs) := (rfl)

theorem freeze_nil : freeze [] H = H := by funext i; simp [freeze]
theorem freeze_get {fr i} : freeze fr H i = if fr.contains i = true then (H i).map fun B => { B with own := false } else H i := (rfl)

/-- A call by its contract. fr: what is closed first; ro: whether what is handed over is closed. -/
theorem callP_ac {f : FuncId} {args ds : List AV} {r : AV} (fr : List Nat) (ro : Bool) (hd : args.mapM (dval ro (freeze fr s.H)) = some ds) (hc : AC P f ds r) (hm : ro = true ∨ noMem r = true) (ho : ownOne r = true)
    (hk : K (s.res sl (genAt G s.H sl) d (freeze fr s.H) r)) : callP P G sl d f args s K := by
  unfold callP; exact .inl ⟨_, r, ⟨fr, ro, ds, rfl, hd, hc, hm, ho⟩, hk⟩
theorem callP_aw {f : FuncId} {args : List AV} {r : AV} {H' : Heap} (hc : AW P f args s.H r H') (hk : K ⟨put s.τ d r, H', s.nx⟩) : callP P none sl d f args s K := by
  unfold callP; exact .inr ⟨rfl, H', r, hc, hk⟩

/-- Data handed over as it stands. -/
theorem callP_0 {f : FuncId} {args : List AV} {r : AV} (hc : AC P f args r) (hd : args.all isD = true) (ho : ownOne r = true)
    (hk : K (s.res sl (genAt G s.H sl) d s.H r)) : callP P G sl d f args s K := by
  refine callP_ac [] true ?_ hc (.inl rfl) ho (by rw [freeze_nil]; exact hk)
  have one : ∀ x, isD x = true → dval true (freeze [] s.H) x = some x := by
    intro x hx
    cases x with
    | agg cs => simp only [isD] at hx; simp only [dval_eq, de_agg, dcs_eq, hx, if_true, Option.map_some]
    | func f caps =>
      simp only [isD, isDc, List.isEmpty_iff] at hx; subst hx
      simp [dval_eq, de_func, dc, dcs_eq]
    | int | bool | str | lst | dptr | undef => rfl
    | _ => simp [isD, isDc] at hx
  clear hc
  induction args with
  | nil => rfl
  | cons x xs ih =>
    simp only [List.all_cons, Bool.and_eq_true] at hd
    rw [mapM_more, one x hd.1, ih hd.2]; rfl

/-- A call, its arguments told as data (not closed: the result leads to no memory). -/
def callX (P : Program) (G : Option (Nat → Nat)) (slot : Nat) (dst : Option Tmp) (f : FuncId) (o : Option (List AV)) (s : St) (K : St → Prop) : Prop :=
  ∃ ds r, o = some ds ∧ AC P f ds r ∧ noMem r = true ∧ ownOne r = true ∧ K (s.res slot (genAt G s.H slot) dst s.H r)
theorem callX_congr {sl' : Nat} {f : FuncId} {o o' : Option (List AV)} {s' : St} (h0 : sl = sl') (h : o = o') (h' : s = s') : callX P G sl d f o s K = callX P G sl' d f o' s' K := by rw [h0, h, h']
theorem callP_x {f : FuncId} {args : List AV} (h : callX P G sl d f (args.mapM (dval false s.H)) s K) : callP P G sl d f args s K := by
  obtain ⟨ds, r, h1, h2, h3, h4, h5⟩ := h
  exact callP_ac [] false (by rw [freeze_nil]; exact h1) h2 (.inr h3) h4 (by rw [freeze_nil]; exact h5)
theorem callX_ac {f : FuncId} {ds : List AV} {r : AV} (hc : AC P f ds r) (hm : noMem r = true) (ho : ownOne r = true) (hk : K (s.res sl (genAt G s.H sl) d s.H r)) : callX P G sl d f (some ds) s K := ⟨ds, r, rfl, hc, hm, ho, hk⟩
/-- A call, some blocks closed ahead of it. -/
def callF (P : Program) (G : Option (Nat → Nat)) (slot : Nat) (dst : Option Tmp) (f : FuncId) (o : Option (List AV)) (H : Heap) (s : St) (K : St → Prop) : Prop :=
  ∃ ds r, o = some ds ∧ AC P f ds r ∧ ownOne r = true ∧ K (s.res slot (genAt G s.H slot) dst H r)
theorem callF_congr {sl' : Nat} {f : FuncId} {o o' : Option (List AV)} {H H' : Heap} {s' : St} (h0 : sl = sl') (h : o = o') (h'' : H = H') (h' : s = s') : callF P G sl d f o H s K = callF P G sl' d f o' H' s' K := by rw [h0, h, h', h'']
theorem callP_f (fr : List Nat) {f : FuncId} {args : List AV} (h : callF P G sl d f (args.mapM (dval true (freeze fr s.H))) (freeze fr s.H) s K) : callP P G sl d f args s K := by
  obtain ⟨ds, r, h1, h2, h4, h5⟩ := h
  exact callP_ac fr true h1 h2 (.inl rfl) h4 h5
theorem callF_ac {f : FuncId} {ds : List AV} {r : AV} (hc : AC P f ds r) (ho : ownOne r = true) (hk : K (s.res sl (genAt G s.H sl) d H r)) : callF P G sl d f (some ds) H s K := ⟨ds, r, rfl, hc, ho, hk⟩
/-- What is closed, by the block. -/
theorem freeze_upd_in {fr : List Nat} {i : Nat} {sz els g ow} (h : fr.contains i = true) : freeze fr (upd H i (some ⟨sz, els, g, ow⟩)) = upd (freeze fr H) i (some ⟨sz, els, g, false⟩) := by
  funext j
  simp only [freeze, upd]
  by_cases e : j = i
  · subst e; simp only [h, if_true, Option.map_some]
  · simp only [e, if_false]
theorem freeze_upd_out {fr : List Nat} {i : Nat} {b} (h : fr.contains i = false) : freeze fr (upd H i b) = upd (freeze fr H) i b := by
  funext j
  simp only [freeze, upd]
  by_cases e : j = i
  · subst e; simp only [h, if_true, Bool.false_eq_true, if_false]
  · simp only [e, if_false]
theorem freeze_hp0 {fr : List Nat} : freeze fr hp0 = hp0 := by funext j; simp only [freeze, hp0]; split <;> rfl
theorem cont_nil {i : Nat} : ([] : List Nat).contains i = false := (rfl)
theorem cont_cons {i j : Nat} {l : List Nat} : (j :: l).contains i = ((i == j) || l.contains i) := by rw [List.contains_cons]

theorem res_int {g H' k n} : s.res sl g d H' (.int k n) = ⟨put s.τ d (.int k n), H', s.nx⟩ := (rfl)
theorem res_bool {g H' n} : s.res sl g d H' (.bool n) = ⟨put s.τ d (.bool n), H', s.nx⟩ := (rfl)
theorem res_str {g H' n} : s.res sl g d H' (.str n) = ⟨put s.τ d (.str n), H', s.nx⟩ := (rfl)
def resG (s : St) (sl g : Nat) (d : Option Tmp) (H' : Heap) (cs : List AV) (b : Option (Nat × List AV)) : St :=
  match b with
  | some p => ⟨put s.τ d (.agg (cs.map (resC sl g))), upd H' sl (some ⟨p.1, p.2, g, true⟩), s.nx⟩
  | none => ⟨put s.τ d (.agg cs), H', s.nx⟩
theorem res_agg {g H' n} : s.res sl g d H' (.agg n) = resG s sl g d H' n (n.findSome? ownC) := by
  simp only [St.res, resB, ownB, resG, resV, resV1]
  try (cases n.findSome? ownC <;> rfl)
theorem resG_none {g H' rs} : resG s sl g d H' rs none = ⟨put s.τ d (.agg rs), H', s.nx⟩ := (rfl)
theorem resG_some {g H' rs p} : resG s sl g d H' rs (some p) = ⟨put s.τ d (.agg (rs.map (resC sl g))), upd H' sl (some ⟨p.1, p.2, g, true⟩), s.nx⟩ := (rfl)
theorem resC_own {g n xs} : resC sl g (.own n xs) = .ref sl g 0 xs.length := (rfl)
theorem resC_int {g k n} : resC sl g (.int k n) = .int k n := (rfl)
theorem resC_bool {g n} : resC sl g (.bool n) = .bool n := (rfl)
theorem resC_str {g n} : resC sl g (.str n) = .str n := (rfl)
theorem resC_lst {g n} : resC sl g (.lst n) = .lst n := (rfl)
theorem ownC_own {n xs} : ownC (.own n xs) = some (n, xs) := (rfl)
theorem ownC_int {k n} : ownC (.int k n) = none := (rfl)
theorem ownC_bool {n} : ownC (.bool n) = none := (rfl)
theorem ownC_str {n} : ownC (.str n) = none := (rfl)
theorem ownC_lst {n} : ownC (.lst n) = none := (rfl)
theorem res_lst {g H' n} : s.res sl g d H' (.lst n) = ⟨put s.τ d (.lst n), H', s.nx⟩ := (rfl)
theorem res_own {g H' sz xs} : s.res sl g d H' (.own sz xs) = ⟨put s.τ d (.ref sl g 0 xs.length), upd H' sl (some ⟨sz, xs, g, true⟩), s.nx⟩ := (rfl)
def resT (s : St) (sl g : Nat) (d : Option Tmp) (H' : Heap) (rs : List AV) (b : Option (Nat × List AV)) : St :=
  match b with
  | some p => ⟨put s.τ d (.tup (rs.map (resV1 sl g))), upd H' sl (some ⟨p.1, p.2, g, true⟩), s.nx⟩
  | none => ⟨put s.τ d (.tup rs), H', s.nx⟩
theorem res_tup {g H' rs} : s.res sl g d H' (.tup rs) = resT s sl g d H' rs (rs.findSome? ownB) := by
  simp only [St.res, resB, resT, resV]
  try (cases rs.findSome? ownB <;> rfl)
theorem resT_none {g H' rs} : resT s sl g d H' rs none = ⟨put s.τ d (.tup rs), H', s.nx⟩ := (rfl)
theorem resT_some {g H' rs p} : resT s sl g d H' rs (some p) = ⟨put s.τ d (.tup (rs.map (resV1 sl g))), upd H' sl (some ⟨p.1, p.2, g, true⟩), s.nx⟩ := (rfl)
theorem resV1_own {g n xs} : resV1 sl g (.own n xs) = .ref sl g 0 xs.length := (rfl)
theorem resV1_int {g k n} : resV1 sl g (.int k n) = .int k n := (rfl)
theorem resV1_bool {g n} : resV1 sl g (.bool n) = .bool n := (rfl)
theorem resV1_str {g n} : resV1 sl g (.str n) = .str n := (rfl)
theorem resV1_agg {g n} : resV1 sl g (.agg n) = .agg (n.map (resC sl g)) := (rfl)
theorem resV1_lst {g n} : resV1 sl g (.lst n) = .lst n := (rfl)
theorem ownB_own {n xs} : ownB (.own n xs) = some (n, xs) := (rfl)
theorem ownB_int {k n} : ownB (.int k n) = none := (rfl)
theorem ownB_bool {n} : ownB (.bool n) = none := (rfl)
theorem ownB_str {n} : ownB (.str n) = none := (rfl)
theorem ownB_agg {n} : ownB (.agg n) = n.findSome? ownC := (rfl)
theorem ownB_lst {n} : ownB (.lst n) = none := (rfl)

/-- What a body ends with, by its results. -/
def retR (P : Program) (rs : List ResultVar) (res : AV) (e : Exit) (s : St) : Prop := (e = .normal ∨ e = .ret) ∧ ∃ l, rs.mapM (resA P s) = some l ∧ RD s.H (tupOf l) res
def RDL (H : Heap) (oid : Option Nat) : List AV → List AV → Prop
  | [], [] => True
  | r :: rs, d :: ds => RD1 H oid r d ∧ RDL H oid rs ds
  | _, _ => False
/-- The results rs, told as ds. -/
def RDs (H : Heap) (rs ds : List AV) : Prop := ∃ oid, RDL H oid rs ds
def untup : AV → List AV
  | .tup l => l
  | x => [x]

theorem RDL_get {oid : Option Nat} : ∀ {rs ds : List AV}, RDL H oid rs ds → rs.length = ds.length ∧ ∀ (k : Nat) (x y : AV), rs[k]? = some x → ds[k]? = some y → RD1 H oid x y
  | [], [], _ => ⟨rfl, by simp⟩
  | r :: rs, d :: ds, h => by
    obtain ⟨h1, h2⟩ := RDL_get h.2
    refine ⟨by simp [h1], fun k x y hx hy => ?_⟩
    cases k with
    | zero => simp at hx hy; subst hx; subst hy; exact h.1
    | succ k => exact h2 k x y (by simpa using hx) (by simpa using hy)
  | [], _ :: _, h => h.elim
  | _ :: _, [], h => h.elim

def tmpsOf (s : St) : List ResultVar → List AV
  | [] => []
  | .tmp t :: r => s.τ t :: tmpsOf s r
  | _ :: r => .undef :: tmpsOf s r
def allTmp (rs : List ResultVar) : Bool := rs.all fun | .tmp _ => true | _ => false
theorem tmpsOf_eq : ∀ {rs : List ResultVar}, allTmp rs = true → rs.mapM (resA P s) = some (tmpsOf s rs)
  | [], _ => rfl
  | .tmp t :: r, h => by
    have := tmpsOf_eq (rs := r) (by simpa [allTmp] using h)
    rw [List.mapM_cons, this]; rfl
  | .cell _ _ :: r, h => by simp [allTmp] at h

theorem AC.of_run {f : FuncId} {fn : Func} {c : Code} {args : List AV} {res : AV} {nt : Nat} {rs : List ResultVar} (hm : P.follows .mixedOrders = true) (hf : P.funcs[f]? = some fn) (hcall : ∀ vs w, (callFunc f vs).run P w = .ok (.enter f vs) w)
    (hk : fn.body = some c ∧ fn.ntmps = nt ∧ fn.results = rs.toArray ∧ okBody nt c = true) (hn : decide (args.length ≤ nt) = true) (h : sx P c (retR P rs res) (st0 args)) : AC P f args res := by
  obtain ⟨h1, rfl, h3, h4⟩ := hk
  refine AC.mk hm hf h1 hcall (by simpa using hn) (awp_mono c _ _ _ ?_ (sx_sound c _ _ h4 h))
  rintro e s ⟨h5, l, h6, h7⟩
  exact ⟨h5, tupOf l, by simp [resAll, h3, h6], h7⟩

def retW (P : Program) (rs : List ResultVar) (res : AV) (H' : Heap) (e : Exit) (s : St) : Prop := (e = .normal ∨ e = .ret) ∧ (∃ l, rs.mapM (resA P s) = some l ∧ tupOf l = res) ∧ s.H = H'
theorem AW.of_run {f : FuncId} {fn : Func} {c : Code} {args : List AV} {res : AV} {H H' : Heap} {nt : Nat} {rs : List ResultVar} (nx : Nat) (hm : P.follows .mixedOrders = true) (hf : P.funcs[f]? = some fn) (hcall : ∀ vs w, (callFunc f vs).run P w = .ok (.enter f vs) w)
    (hk : fn.body = some c ∧ fn.ntmps = nt ∧ fn.results = rs.toArray ∧ okBody nt c = true) (hn : decide (args.length ≤ nt) = true) (h : sx P c (retW P rs res H') ⟨(st0 args).τ, H, nx⟩) : AW P f args H res H' := by
  obtain ⟨h1, rfl, h3, h4⟩ := hk
  refine AW.mk nx hm hf h1 hcall (by simpa using hn) (awp_mono c _ _ _ ?_ (sx_sound c _ _ h4 h))
  rintro e s ⟨h5, ⟨l, h6, h7⟩, h8⟩
  exact ⟨h5, by simp [resAll, h3, h6, h7], h8⟩
theorem retW_1 {t : Tmp} {d : AV} {H' : Heap} {e : Exit} (he : e = .normal ∨ e = .ret) (h : s.τ t = d) (hH : s.H = H') : retW P [.tmp t] d H' e s :=
  ⟨he, ⟨[s.τ t], rfl, h⟩, hH⟩

theorem RD_RDs {rs ds : List AV} (h : RDs H rs ds) (h1 : ds.length = 1 → (∀ d ∈ ds, ∀ l, d ≠ .tup l)) : RD H (tupOf rs) (tupOf ds) := by
  obtain ⟨oid, h⟩ := h
  obtain ⟨h2, h3⟩ := RDL_get h
  refine ⟨oid, ?_⟩
  match rs, ds, h2, h3 with
  | [], [], _, _ => exact ⟨[], rfl, rfl, by simp⟩
  | [r], [d], _, h3 =>
    have := h3 0 r d rfl rfl
    have hd := h1 rfl d (by simp)
    cases d <;> first | exact absurd rfl (hd _) | exact this
  | _ :: _ :: _, _ :: _ :: _, h2, h3 => exact ⟨_, rfl, by simpa using h2, h3⟩

theorem retR_1 {t : Tmp} {d : AV} {e : Exit} (he : e = .normal ∨ e = .ret) (hd : ∀ l, d ≠ .tup l) (h : RDs s.H [s.τ t] [d]) : retR P [.tmp t] d e s := by
  refine ⟨he, [s.τ t], rfl, ?_⟩
  have := RD_RDs h (fun _ => by simpa using hd)
  exact this
theorem retR_more {t u : Tmp} {rs : List ResultVar} {ds : List AV} {e : Exit} (he : e = .normal ∨ e = .ret) (ht : allTmp (.tmp t :: .tmp u :: rs) = true) (h : RDs s.H (tmpsOf s (.tmp t :: .tmp u :: rs)) ds) : retR P (.tmp t :: .tmp u :: rs) (.tup ds) e s := by
  refine ⟨he, _, tmpsOf_eq ht, ?_⟩
  have hl : 2 ≤ ds.length := by
    obtain ⟨oid, h⟩ := h
    have := (RDL_get h).1
    simp [tmpsOf] at this; omega
  have := RD_RDs h (by omega)
  match ds, hl with
  | _ :: _ :: _, _ => exact this
theorem retR_cell {t : Tmp} {ty : TypeId} {d : AV} {e : Exit} {cs : List AV} {x : AV} (he : e = .normal ∨ e = .ret) (hd : ∀ l, d ≠ .tup l) (h1 : cellsAt s.H (s.τ t) = some cs) (h2 : loadA P ty cs = some x) (h : RDs s.H [x] [d]) : retR P [.cell t ty] d e s := by
  refine ⟨he, [x], ?_, ?_⟩
  · simp [resA, h1, h2]
  · have := RD_RDs h (fun _ => by simpa using hd)
    exact this

theorem RD1_dat {oid r d} (h : ∀ H, dval true H r = some d) (ho : isOwn d = false) : RD1 H oid r d := .inl ⟨h _, ho⟩
theorem RD1_int {oid k n m} (h : n = m) : RD1 H oid (.int k n) (.int k m) := by subst h; exact RD1_dat (fun _ => rfl) rfl
theorem RD1_bool {oid n m} (h : n = m) : RD1 H oid (.bool n) (.bool m) := by subst h; exact RD1_dat (fun _ => rfl) rfl
theorem RD1_str {oid n m} (h : n = m) : RD1 H oid (.str n) (.str m) := by subst h; exact RD1_dat (fun _ => rfl) rfl
theorem RD1_lst {oid n m} (h : n = m) : RD1 H oid (.lst n) (.lst m) := by subst h; exact RD1_dat (fun _ => rfl) rfl
theorem RD1_agg {oid cs ds} (h : cs = ds) (ha : cs.all isDc = true) : RD1 H oid (.agg cs) (.agg ds) := by
  subst h; exact RD1_dat (fun _ => by simp only [dval_eq, de_agg, dcs_eq, ha, if_true, Option.map_some]) rfl
/-- Our own slice, handed over. -/
theorem RD1_own {id g off len sz els} (hB : H id = some ⟨sz, els, g, true⟩) (hl : off + len ≤ els.length) {xs : List AV} (hx : dl (dc true (frz (some id) H) 6) ((els.drop off).take len) = some xs) : RD1 H (some id) (.ref id g off len) (.own sz xs) :=
  .inr (.inl (.inl ⟨id, g, off, len, _, xs, rfl, rfl, hB, rfl, rfl, hl, hx, rfl⟩))
theorem RD1_nil {oid sz} : RD1 H oid .nil (.own sz []) := .inr (.inl (.inr ⟨rfl, sz, rfl⟩))
theorem RDc_int {oid k n m} (h : n = m) : RDc H oid (.int k n) (.int k m) := by subst h; exact .inl ⟨rfl, .inr ⟨rfl, rfl⟩⟩
theorem RDc_bool {oid n m} (h : n = m) : RDc H oid (.bool n) (.bool m) := by subst h; exact .inl ⟨rfl, .inr ⟨rfl, rfl⟩⟩
theorem RDc_str {oid n m} (h : n = m) : RDc H oid (.str n) (.str m) := by subst h; exact .inl ⟨rfl, .inr ⟨rfl, rfl⟩⟩
theorem RDc_lst {oid n m} (h : n = m) : RDc H oid (.lst n) (.lst m) := by subst h; exact .inl ⟨rfl, .inr ⟨rfl, rfl⟩⟩
theorem RDc_own {id g off len sz els} (hB : H id = some ⟨sz, els, g, true⟩) (hl : off + len ≤ els.length) {xs : List AV} (hx : dl (dc true (frz (some id) H) 6) ((els.drop off).take len) = some xs) : RDc H (some id) (.ref id g off len) (.own sz xs) :=
  .inr (.inl ⟨id, g, off, len, _, xs, rfl, rfl, hB, rfl, rfl, hl, hx, rfl⟩)
theorem RDc_nil {oid sz} : RDc H oid .nil (.own sz []) := .inr (.inr ⟨rfl, sz, rfl⟩)
def RDcs (H : Heap) (oid : Option Nat) : List AV → List AV → Prop
  | [], [] => True
  | c :: cs, e :: es => RDc H oid c e ∧ RDcs H oid cs es
  | _, _ => False
theorem RDcs_get {oid : Option Nat} : ∀ {cs es : List AV}, RDcs H oid cs es → cs.length = es.length ∧ ∀ (k : Nat) (c e : AV), cs[k]? = some c → es[k]? = some e → RDc H oid c e
  | [], [], _ => ⟨rfl, by simp⟩
  | c :: cs, e :: es, ⟨h1, h2⟩ => by
    obtain ⟨h3, h4⟩ := RDcs_get h2
    refine ⟨by simp [h3], fun k x y hx hy => ?_⟩
    cases k with
    | zero => simp at hx hy; subst hx hy; exact h1
    | succ k => exact h4 k x y (by simpa using hx) (by simpa using hy)
theorem RD1_aggO {oid cs ds} (h : RDcs H oid cs ds) : RD1 H oid (.agg cs) (.agg ds) := .inr (.inr ⟨cs, ds, rfl, rfl, RDcs_get h⟩)
theorem RDs_1 {r d : AV} (oid : Option Nat) (h : RD1 H oid r d) : RDs H [r] [d] := ⟨oid, h, trivial⟩
theorem RDs_2 {r d r' d' : AV} (oid : Option Nat) (h : RD1 H oid r d) (h' : RD1 H oid r' d') : RDs H [r, r'] [d, d'] := ⟨oid, h, h', trivial⟩
theorem RDs_3 {r d r' d' r'' d'' : AV} (oid : Option Nat) (h : RD1 H oid r d) (h' : RD1 H oid r' d') (h'' : RD1 H oid r'' d'') : RDs H [r, r', r''] [d, d', d''] := ⟨oid, h, h', h'', trivial⟩

def isTup : AV → Bool
  | .tup _ => true
  | _ => false
theorem isTup_int {k n} : isTup (.int k n) = false := (rfl)
theorem isTup_bool {n} : isTup (.bool n) = false := (rfl)
theorem isTup_str {n} : isTup (.str n) = false := (rfl)
theorem isTup_agg {n} : isTup (.agg n) = false := (rfl)
theorem isTup_lst {n} : isTup (.lst n) = false := (rfl)
theorem isTup_own {k n} : isTup (.own k n) = false := (rfl)
theorem of_isTup {d : AV} (h : isTup d = false) : ∀ l, d ≠ .tup l := by rintro l rfl; simp [isTup] at h
theorem RDL_of {oid : Option Nat} : ∀ {rs ds : List AV}, rs.length = ds.length → (∀ (k : Nat) (x y : AV), rs[k]? = some x → ds[k]? = some y → RD1 H oid x y) → RDL H oid rs ds
  | [], [], _, _ => trivial
  | r :: rs, d :: ds, hl, h => ⟨h 0 r d rfl rfl, RDL_of (by simpa using hl) fun k x y hx hy => h (k + 1) x y (by simpa using hx) (by simpa using hy)⟩
  | [], _ :: _, h, _ => by simp at h
  | _ :: _, [], h, _ => by simp at h
theorem ret_one {t : Tmp} {d : AV} (hd : isTup d = false) : retR P [.tmp t] d .ret s = RDs s.H [s.τ t] [d] := by
  refine propext ⟨fun h => ?_, fun h => retR_1 (.inr rfl) (of_isTup hd) h⟩
  obtain ⟨_, l, h1, oid, h2⟩ := h
  cases h1
  refine ⟨oid, ?_, trivial⟩
  cases d <;> first | exact h2 | simp [isTup] at hd
theorem ret_many {t u : Tmp} {rs : List ResultVar} {ds : List AV} (ht : allTmp (.tmp t :: .tmp u :: rs) = true) : retR P (.tmp t :: .tmp u :: rs) (.tup ds) .ret s = RDs s.H (tmpsOf s (.tmp t :: .tmp u :: rs)) ds := by
  refine propext ⟨fun h => ?_, fun h => retR_more (.inr rfl) ht h⟩
  obtain ⟨_, l, h1, oid, h2⟩ := h
  rw [tmpsOf_eq ht] at h1
  cases h1
  obtain ⟨rs', h3, h4, h5⟩ := h2
  have h3 : AV.tup (tmpsOf s (.tmp t :: .tmp u :: rs)) = .tup rs' := h3
  cases h3
  exact ⟨oid, RDL_of h4 h5⟩
theorem ret_many_n {t u : Tmp} {rs : List ResultVar} {ds : List AV} : retR P (.tmp t :: .tmp u :: rs) (.tup ds) .normal s = retR P (.tmp t :: .tmp u :: rs) (.tup ds) .ret s := by simp [retR]
theorem ret_one_n {t : Tmp} {d : AV} : retR P [.tmp t] d .normal s = retR P [.tmp t] d .ret s := by simp [retR]
theorem allTmp_nil : allTmp [] = true := (rfl)
theorem allTmp_cons {t rs} : allTmp (.tmp t :: rs) = allTmp rs := by simp [allTmp]
theorem tmpsOf_nil : tmpsOf s [] = [] := (rfl)
theorem tmpsOf_cons {t rs} : tmpsOf s (.tmp t :: rs) = s.τ t :: tmpsOf s rs := (rfl)
theorem RDs_nil : RDs H [] [] = True := propext ⟨fun _ => trivial, fun _ => ⟨none, trivial⟩⟩
theorem RDs_data {r d : AV} {rs ds : List AV} {p : Prop} (h : ∀ oid, RD1 H oid r d ↔ p) : RDs H (r :: rs) (d :: ds) = (p ∧ RDs H rs ds) := by
  refine propext ⟨fun ⟨oid, h1, h2⟩ => ⟨(h oid).1 h1, oid, h2⟩, fun ⟨h1, oid, h2⟩ => ⟨oid, (h oid).2 h1, h2⟩⟩
theorem RDs_int {k n m rs ds} : RDs H (.int k n :: rs) (.int k m :: ds) = (n = m ∧ RDs H rs ds) := RDs_data fun oid => by
  refine ⟨fun h => ?_, RD1_int⟩
  rcases h with ⟨h, _⟩ | (⟨_, _, _, _, _, _, h, _⟩ | ⟨h, _⟩) | ⟨_, _, h, _⟩
  · simp only [dval, de, dc, isDc, if_true] at h; cases h; rfl
  · cases h
  · cases h
  · cases h
theorem RDs_bool {n m rs ds} : RDs H (.bool n :: rs) (.bool m :: ds) = (n = m ∧ RDs H rs ds) := RDs_data fun oid => by
  refine ⟨fun h => ?_, RD1_bool⟩
  rcases h with ⟨h, _⟩ | (⟨_, _, _, _, _, _, h, _⟩ | ⟨h, _⟩) | ⟨_, _, h, _⟩
  · simp only [dval, de, dc, isDc, if_true] at h; cases h; rfl
  · cases h
  · cases h
  · cases h
theorem RDs_str {n m rs ds} : RDs H (.str n :: rs) (.str m :: ds) = (n = m ∧ RDs H rs ds) := RDs_data fun oid => by
  refine ⟨fun h => ?_, RD1_str⟩
  rcases h with ⟨h, _⟩ | (⟨_, _, _, _, _, _, h, _⟩ | ⟨h, _⟩) | ⟨_, _, h, _⟩
  · simp only [dval, de, dc, isDc, if_true] at h; cases h; rfl
  · cases h
  · cases h
  · cases h
theorem RDs_lst {n m rs ds} : RDs H (.lst n :: rs) (.lst m :: ds) = (n = m ∧ RDs H rs ds) := RDs_data fun oid => by
  refine ⟨fun h => ?_, RD1_lst⟩
  rcases h with ⟨h, _⟩ | (⟨_, _, _, _, _, _, h, _⟩ | ⟨h, _⟩) | ⟨_, _, h, _⟩
  · simp only [dval, de, dc, isDc, if_true] at h; cases h; rfl
  · cases h
  · cases h
  · cases h
theorem RDs_agg {cs cs' rs ds} (ha : cs.all isDc = true) : RDs H (.agg cs :: rs) (.agg cs' :: ds) = (cs = cs' ∧ RDs H rs ds) := RDs_data fun oid => by
  refine ⟨fun h => ?_, fun h => RD1_agg h ha⟩
  rcases h with ⟨h, _⟩ | (⟨_, _, _, _, _, _, h, _⟩ | ⟨h, _⟩) | ⟨as, es, h1, h2, hl, hc⟩
  · simp only [dval_eq, de_agg, dcs_eq, ha, if_true, Option.map_some] at h; cases h; rfl
  · cases h
  · cases h
  · cases h1; cases h2
    refine List.ext_getElem hl fun k h3 h4 => ?_
    have hd := List.all_eq_true.1 ha _ (List.getElem_mem h3)
    rcases hc k _ _ (List.getElem?_eq_getElem h3) (List.getElem?_eq_getElem h4) with ⟨_, h5⟩ | h5
    · rcases h5 with h5 | ⟨_, h5⟩
      · generalize cs[k] = c at hd h5
        cases c <;> first
          | (simp [isDc] at hd; done)
          | (simp [dc, isDc] at h5; exact h5)
          | (rename_i f caps; simp only [isDc, List.isEmpty_iff] at hd; subst hd; simp [dc, dcs] at h5; exact h5)
      · exact h5.symm
    · rcases h5 with ⟨_, _, _, _, _, _, h5, _⟩ | ⟨h5, _⟩ <;> (rw [h5] at hd; simp [isDc] at hd)
end

section
variable {P : Program} {s : St} {H : Heap}
def okRes : AV → Bool
  | .tup ds => ds.length != 1
  | _ => true
def retM (s : St) (d : AV) : Option (List AV) → Prop
  | some l => RDs s.H l (untup d)
  | none => False
theorem retM_some {d l} : retM s d (some l) = RDs s.H l (untup d) := (rfl)
theorem ret_gen {rs : List ResultVar} {d : AV} {e : Exit} (he : e = .normal ∨ e = .ret) (hd : okRes d = true) (h : retM s d (rs.mapM (resA P s))) : retR P rs d e s := by
  refine ⟨he, ?_⟩
  cases hm : rs.mapM (resA P s) with
  | none => rw [hm] at h; exact h.elim
  | some l =>
    rw [hm, retM_some] at h
    refine ⟨l, rfl, ?_⟩
    have hl : l.length = (untup d).length := by
      obtain ⟨oid, h⟩ := h
      exact (RDL_get h).1
    have := RD_RDs h (fun hlen => by
      cases d <;> simp_all [untup, okRes])
    cases d with
    | tup ds =>
      simp [okRes] at hd
      simp only [untup] at this hl
      match ds, hd, this, hl with
      | [], _, this, _ => exact this
      | _ :: _ :: _, _, this, _ => exact this
    | _ => exact this
theorem untup_tup {l} : untup (.tup l) = l := (rfl)
theorem untup_int {k n} : untup (.int k n) = [.int k n] := (rfl)
theorem untup_bool {n} : untup (.bool n) = [.bool n] := (rfl)
theorem untup_str {n} : untup (.str n) = [.str n] := (rfl)
theorem untup_agg {n} : untup (.agg n) = [.agg n] := (rfl)
theorem untup_lst {n} : untup (.lst n) = [.lst n] := (rfl)
theorem untup_own {k n} : untup (.own k n) = [.own k n] := (rfl)
theorem resA_tmp {t} : resA P s (.tmp t) = some (s.τ t) := (rfl)
theorem resA_cell {t ty} : resA P s (.cell t ty) = loadV (cellsAt s.H (s.τ t)) (loadA P ty) := by
  simp only [resA, loadV]
  try (cases cellsAt s.H (s.τ t) <;> rfl)
theorem mapMR_nil {f : ResultVar → Option AV} : ([] : List ResultVar).mapM f = some [] := (rfl)
theorem mapMR_more {f : ResultVar → Option AV} {x xs} : (x :: xs).mapM f = consO (f x) (xs.mapM f) := by
  rw [List.mapM_cons]
  try (cases f x <;> cases xs.mapM f <;> rfl)
theorem upd_upd {α : Type} {τ : Nat → α} {t : Nat} {a b : α} : upd (upd τ t a) t b = upd τ t b := by
  funext j; simp only [upd]; split <;> rfl
end

section
variable {P : Program} {pl : Nat → Option (Nat × Nat)} {cells : List AV} {v : AV} {r : List (Nat × AV)} {i off n : Nat}
def plcL (l : List (Nat × Nat)) (i : Nat) : Option (Nat × Nat) := l[i]?
theorem plcL_eq {l} : plcL l i = l[i]? := (rfl)
def plcM (s : Nat) (i : Nat) : Option (Nat × Nat) := some (i * s, s)
theorem plcM_eq {s} : plcM s i = some (i * s, s) := (rfl)
def fillQ (pl : Nat → Option (Nat × Nat)) (cells : List AV) (v : AV) (r : List (Nat × AV)) (o : Option (Nat × Nat)) : Option (List AV) :=
  match o with
  | some (off, n) => if v.fits n = true ∧ off + n ≤ cells.length then fillA pl (cells.take off ++ v.cells ++ cells.drop (off + n)) r else none
  | none => none
theorem fill_nil : fillA pl cells [] = some cells := (rfl)
theorem fill_cons : fillA pl cells ((i, v) :: r) = fillQ pl cells v r (pl i) := by
  unfold fillQ; rw [fillA]
  try (cases pl i <;> rfl)
theorem fillQ_some : fillQ pl cells v r (some (off, n)) = if v.fits n = true ∧ off + n ≤ cells.length then fillA pl (cells.take off ++ v.cells ++ cells.drop (off + n)) r else none := (rfl)
theorem fillEls_nil : fillEls n cells [] = some cells := (rfl)
theorem fillEls_cons : fillEls n cells ((i, v) :: r) = if v.fits n = true ∧ i < cells.length then fillEls n (cells.set i v) r else none := (rfl)
def bsZ (n : Option Nat) (z : Option AV) (len : Nat) (parts : List (Nat × AV)) : Option Out :=
  match n, z with
  | some n, some z => if z.fits n = true ∧ 0 < n ∧ len * n ≤ 16777216 then (fillEls n (List.replicate len z) parts).map fun els => .new ⟨n, els, 0, true⟩ fun id g => .ref id g 0 len else none
  | _, _ => none
theorem bsZ_some {z len parts} : bsZ (some n) (some z) len parts = if z.fits n = true ∧ 0 < n ∧ len * n ≤ 16777216 then (fillEls n (List.replicate len z) parts).map fun els => .new ⟨n, els, 0, true⟩ fun id g => .ref id g 0 len else none := (rfl)
def bsK (P : Program) (k : TK) (len : Nat) (parts : List (Nat × AV)) : Option Out :=
  match k with
  | .slice e => bsZ (csz P e) (zro P e) len parts
  | _ => none
theorem bsK_eq {e len parts} : bsK P (.slice e) len parts = bsZ (csz P e) (zro P e) len parts := (rfl)
theorem op_bs {G sl d s K t ps} : runOp P G sl d (.buildSlice t n ps) s K = outP G sl d s K (bsK P (tk P t) n (ps.toList.map fun p => (p.1, opnd s.τ p.2))) := by
  rw [op_buildSlice]
  refine congrArg _ ?_
  simp only [aop, bsK, bsZ]
  cases tk P t with
  | slice e => cases csz P e <;> cases zro P e <;> rfl
  | _ => rfl
theorem rep_zero {z : AV} : List.replicate 0 z = [] := (rfl)
theorem rep_succ {z : AV} : List.replicate (n + 1) z = z :: List.replicate n z := (rfl)
end

section
variable {P : Program} {Q : Exit → St → Prop} {s : St}
theorem sx_loop {c : Code} (I : Nat → St → Prop) (n : Nat) (h0 : I n s) (hI : ∀ n s, I n s → sx P c (thenA (fun s' => ∃ m, m < n ∧ I m s') Q) s) : sx P (.loop c) Q s := by
  unfold sx; exact ⟨s, Ghost.refl s, I, n, h0, hI⟩
theorem sx_loopG {c : Code} (s' : St) (hg : Ghost s s') (I : Nat → St → Prop) (n : Nat) (h0 : I n s') (hI : ∀ n s, I n s → sx P c (thenA (fun s' => ∃ m, m < n ∧ I m s') Q) s) : sx P (.loop c) Q s := by
  unfold sx; exact ⟨s', hg, I, n, h0, hI⟩
theorem wrap_i64 {x : Int} (h : -9223372036854775808 ≤ x ∧ x ≤ 9223372036854775807) : IntKind.i64.wrap x = x := by
  have e : IntKind.i64.wrap x = if 9223372036854775808 ≤ x % 18446744073709551616 then x % 18446744073709551616 - 18446744073709551616 else x % 18446744073709551616 := by
    simp [IntKind.wrap, IntKind.bits, IntKind.signed]
  rw [e]
  by_cases h' : 9223372036854775808 ≤ x % 18446744073709551616
  · rw [if_pos h']; omega
  · rw [if_neg h']; omega
theorem wrap_u8 {x : Int} (h : 0 ≤ x ∧ x ≤ 255) : IntKind.u8.wrap x = x := by
  simp only [IntKind.wrap, IntKind.bits, IntKind.signed]
  simp; omega
theorem tmod_nat (a b : Nat) : Int.tmod (a : Int) (b : Int) = ((a % b : Nat) : Int) := rfl
theorem tdiv_nat (a b : Nat) : Int.tdiv (a : Int) (b : Int) = ((a / b : Nat) : Int) := rfl
end

section
variable {b n i j : Nat} {H H0 : Heap} {v : Option Blk} {B : Blk}
theorem inR_eq : inR b n i = (decide (b ≤ i) && decide (i < b + n)) := (rfl)
theorem clr_hp0 : clr b n hp0 = hp0 := by funext j; simp [clr, hp0]
theorem clr_in (h : inR b n i = true) : clr b n (upd H i v) = clr b n H := by
  funext j; simp only [clr, upd]
  by_cases e : j = i
  · subst e; simp [h]
  · simp [e]
theorem clr_out (h : inR b n i = false) : clr b n (upd H i v) = upd (clr b n H) i v := by
  funext j; simp only [clr, upd]
  by_cases e : j = i
  · subst e; simp [h]
  · simp [e]
theorem clr_get (h : inR b n j = false) : clr b n H j = H j := by simp [clr, h]
theorem clr_get_in (h : inR b n j = true) : clr b n H j = none := by simp [clr, h]
theorem fin_upd : fin b n H0 (upd H i (some B)) = upd (fin b n H0 H) i (some B) := by
  funext j; simp only [fin, upd]
  by_cases e : j = i
  · subst e; simp
  · simp [e]
theorem fin_skip (h : inR b n i = false) : fin b n (upd H0 i v) H = fin b n H0 H := by
  funext j; simp only [fin, upd]
  by_cases e : j = i
  · subst e; simp [h]
  · simp [e]
theorem fin_hp0 : fin b n hp0 hp0 = hp0 := by funext j; simp [fin, hp0]
theorem fin_get (h : inR b n j = false) : fin b n H0 H j = H j := by
  simp only [fin, h]
  cases H j <;> simp
end

section
variable {P : Program} {src dst e : TypeId} {H : Heap}
def cvE (k : TK) (o : Option (List AV)) : Option Out :=
  match k with
  | .int .u8 => cvB o
  | _ => none
def cvK (P : Program) (a b : TK) (o : Option (List AV)) : Option Out :=
  match a, b with
  | .slice e, .str => cvE (tk P e) o
  | _, _ => none
theorem cvE_u8 {o} : cvE (.int .u8) o = cvB o := (rfl)
theorem cvK_eq {o} : cvK P (.slice e) .str o = cvE (tk P e) o := (rfl)
theorem cvB_none : cvB none = none := (rfl)
theorem convK {x : AV} (hx : (∃ l, x = .lst l) ∨ x = .nil ∨ ∃ a b c d, x = .ref a b c d) : convA P src dst H x = cvK P (tk P src) (tk P dst) (srcEls H 1 x) := by
  rcases hx with ⟨l, rfl⟩ | rfl | ⟨a, b, c, d, rfl⟩ <;> (simp only [convA, cvK, cvE, cvB]; generalize tk P src = k1; generalize tk P dst = k2; cases k1 <;> try rfl) <;> cases k2 <;> try rfl
  all_goals (rename_i q; generalize tk P q = k3; cases k3 <;> try rfl)
  all_goals (rename_i q2; cases q2 <;> try rfl)
  all_goals (generalize srcEls H 1 _ = o; cases o <;> rfl)
theorem conv_lstK {l} : convA P src dst H (.lst l) = cvK P (tk P src) (tk P dst) (srcEls H 1 (.lst l)) := convK (.inl ⟨l, rfl⟩)
theorem conv_nilK : convA P src dst H .nil = cvK P (tk P src) (tk P dst) (srcEls H 1 .nil) := convK (.inr (.inl rfl))
theorem conv_refK {a b c d} : convA P src dst H (.ref a b c d) = cvK P (tk P src) (tk P dst) (srcEls H 1 (.ref a b c d)) := convK (.inr (.inr ⟨a, b, c, d, rfl⟩))
theorem unbytes_nil : unbytes [] = some [] := (rfl)
theorem unbytes_cons {n l} : unbytes (.int .u8 n :: l) = (unbytes l).map fun r => UInt8.ofNat n.toNat :: r := (rfl)
def cvSE (k : TK) (l : List UInt8) : Option Out :=
  match k with
  | .int .u8 => some (.new ⟨1, bytesA l, 0, true⟩ fun id g => .ref id g 0 l.length)
  | _ => none
theorem cvSE_u8 {l} : cvSE (.int .u8) l = some (.new ⟨1, bytesA l, 0, true⟩ fun id g => .ref id g 0 l.length) := (rfl)
theorem cvS_K {l} : cvS P .str (.slice e) l = cvSE (tk P e) l := by
  simp only [cvS, cvSE]
  try (cases tk P e <;> try rfl)
end

section
variable {P : Program} {t : TypeId}
def eqBK (k : TK) (u v : Bool) : Option Bool :=
  match k with
  | .bool => some (u == v)
  | _ => none
theorem eqA_bool {u v} : eqA P t (.bool u) (.bool v) = eqBK (tk P t) u v := by
  simp only [eqA, eqBK]
  try (cases tk P t <;> rfl)
theorem eqBK_bool {u v} : eqBK .bool u v = some (u == v) := (rfl)
def eqSK (P : Program) (k : TK) (b : Bool) (xs ys : List AV) : Option Bool :=
  match k with
  | .struct fs => if b = true then eqFields P fs xs ys else none
  | _ => none
theorem eqA_agg {xs ys} : eqA P t (.agg xs) (.agg ys) = eqSK P (tk P t) (eqTypes P t) xs ys := by
  simp only [eqA, eqSK]
  try (cases tk P t <;> rfl)
theorem eqSK_struct {fs xs ys} : eqSK P (.struct fs) true xs ys = eqFields P fs xs ys := (rfl)
def eqC (k : TK) (x y : Option AV) : Option Bool :=
  match k, x, y with
  | .bool, some (.bool a), some (.bool b) => some (a == b)
  | .int _, some (.int k a), some (.int k' b) => if k = k' then some (decide (a = b)) else none
  | .str, some (.str a), some (.str b) => some (decide (a = b))
  | _, _, _ => none
theorem eqC_bool {a b} : eqC .bool (some (.bool a)) (some (.bool b)) = some (a == b) := (rfl)
theorem eqC_int {j k a b} : eqC (.int j) (some (.int k a)) (some (.int k b)) = some (decide (a = b)) := by simp [eqC]
theorem eqC_str {a b} : eqC .str (some (.str a)) (some (.str b)) = some (decide (a = b)) := (rfl)
def andO (x y : Option Bool) : Option Bool :=
  match x, y with
  | some b, some c => some (b && c)
  | _, _ => none
theorem andO_some {b c} : andO (some b) (some c) = some (b && c) := (rfl)
theorem eqF_nil {xs ys} : eqFields P [] xs ys = some true := (rfl)
theorem eqF_cons {o fs xs ys} : eqFields P ((t, o) :: fs) xs ys = andO (eqC (tk P t) xs[o]? ys[o]?) (eqFields P fs xs ys) := by
  rw [eqFields]
  cases hx : xs[o]? with
  | none => cases tk P t <;> rfl
  | some x =>
    cases hy : ys[o]? with
    | none => cases tk P t <;> cases x <;> rfl
    | some y =>
      have e : eqCell P t x y = eqC (tk P t) (some x) (some y) := by
        unfold eqCell eqC
        cases tk P t <;> cases x <;> cases y <;> rfl
      simp only [e]
      cases eqC (tk P t) (some x) (some y) <;> cases eqFields P fs xs ys <;> rfl
end

attribute [go_sem] st0_eq hp0_get τ0_zero τ0_succ τ0_nil sx_skip sx_label sx_ret sx_exit sx_seq sx_block sx_cond condP_true condP_false condP_not sx_region sx_draw thenA_normal thenA_ret thenA_exit inBlockA_normal inBlockA_ret inBlockA_exit
  ro_none ro_some run_nil run_none run_some guardP_true guardP_false guardP_tup guardP_f runR_eq guardP_not put_some put_none opnd_tmp opnd_func opnd_int opnd_bool opnd_str opnd_nil opnd_agg ofCell_int ofCell_bool ofCell_str ofCell_nil
  outV_some outP_val outP_new outP_wr outP_map genAt_none genAt_some genD_eq ngenB_none ngenB_some op_move op_assign op_pick pickA_true pickA_false pickA_bool op_alloc allocA_some op_box op_build buildA_some op_load loadV_some op_store op_nilCheck op_binOp op_unOp op_convert op_makeFunc op_makeSlice op_slice op_fieldAddr op_field fieldV_eq fieldP_some
  op_indexAddr op_index op_extract op_call op_callV callV_func op_bi bx_len bx_append bx_copy bx_min bx_max minA_int maxA_int bin_add bin_sub bin_mul bin_quo bin_rem bin_and bin_or bin_xor bin_eql bin_neq bin_lss bin_leq bin_gtr bin_geq bin_shl bin_shr bin_sadd bin_seql bin_sneq bin_slss bin_sgtr bin_sleq bin_sgeq bin_eqlA bin_neqA bin_eqlB bin_neqB un_neg un_not
  cells_agg cells_int cells_bool cells_str cells_lst cells_nil cells_ref cells_ptr cells_dptr cells_func isCell_int isCell_bool isCell_str isCell_lst isCell_nil isCell_ref isCell_ptr isCell_dptr isCell_func fits_eq
  isDc_int isDc_bool isDc_str isDc_lst isDc_dptr isDc_undef isDc_nil isDc_ref isDc_ptr isDc_func isD_agg isD_int isD_bool isD_str isD_lst isD_nil isD_ref
  cellsAt_ptr cellsAt_dptr cellsB_some cellsE_some loadA_eq loadT_true loadT_false partA_eq alive_eq aliveB_some refEls_eq refB_some storeA_ptr storeB_some storeE_some setCells_agg setCells_int setCells_bool setCells_str setCells_nil setCells_ref setCells_lst nilCheck_ptr nilCheck_dptr
  fieldAddr_eq fieldK_eq fieldQ_some fieldZ_ptr fieldZ_dptr indexAddr_eq idx_lst idxL_some idx_ref idxR_some idx_arr_ptr idx_arr_dptr index_eq idxV_str idxS_some lenA_eq len_str len_arr len_nil len_lst len_ref extract_eq src_nil src_lst src_ref srcR_same src_str appendA_eq appK_eq appZ_some appS_nil appS_ref appB_some roomOk_eq makeSlice_eq mkK_eq mkZ_some
  bnd_none bnd_some bndI_int slS_some slL_some slR_some slice_eq slK_str slK_lst slK_ref conv_int cvI_eq conv_str cvS_str
  dval_eq de_agg de_int de_bool de_str de_lst de_dptr de_nil de_ref de_ptr de_func dc_int dc_bool dc_str dc_lst dc_dptr dc_nil dc_ref dcR_some dc_ptr dcP_some dcE_some dcs_eq dl_eq mapM_none mapM_more consO_some freeze_nil
  resG_none resG_some resC_own resC_int resC_bool resC_str resC_lst ownC_own ownC_int ownC_bool ownC_str ownC_lst res_int res_bool res_str res_agg res_lst res_own res_tup resT_none resT_some resV1_own resV1_int resV1_bool resV1_str resV1_agg resV1_lst ownB_own ownB_int ownB_bool ownB_str ownB_agg ownB_lst plcL_eq plcM_eq fill_nil fill_cons fillQ_some fillEls_nil fillEls_cons bsZ_some bsK_eq op_bs upd_apply isTup_int isTup_bool isTup_str isTup_agg isTup_lst isTup_own ret_one ret_many ret_one_n ret_many_n allTmp_nil allTmp_cons tmpsOf_nil tmpsOf_cons RDs_nil RDs_int RDs_bool RDs_str RDs_lst RDs_agg freeze_upd_in freeze_upd_out freeze_hp0 cont_nil cont_cons retM_some untup_tup untup_int untup_bool untup_str untup_agg untup_lst untup_own resA_tmp resA_cell mapMR_nil mapMR_more upd_upd inR_eq clr_hp0 clr_in clr_out clr_get clr_get_in fin_upd fin_skip fin_hp0 fin_get List.size_toArray List.toList_toArray cvE_u8 cvK_eq cvB_none cvB_some conv_lstK conv_nilK conv_refK unbytes_nil unbytes_cons unbytes_bytes cvSE_u8 cvS_K Nat.zero_add eqA_bool eqBK_bool eqA_agg eqSK_struct eqC_bool eqC_int eqC_str andO_some eqF_nil eqF_cons
attribute [go_sem] List.map_cons List.map_nil List.getElem?_cons_zero List.getElem?_cons_succ List.length_cons List.length_nil List.all_cons List.all_nil Bool.and_true Bool.true_and Bool.and_self Option.bind_some Option.map_some Option.map_none List.drop_zero List.drop_succ_cons List.drop_nil List.take_zero List.take_succ_cons List.take_nil List.nil_append List.cons_append List.append_nil Option.isSome_some
  List.set_cons_zero List.set_cons_succ and_self and_true true_and ne_eq not_false_eq_true beq_self_eq_true Bool.not_true Bool.not_false Bool.not_not List.findSome?_cons List.findSome?_nil forall_const implies_true Nat.le_refl false_and and_false or_false false_or true_or or_true Bool.and_false Bool.false_and Bool.or_false Bool.false_or Bool.or_true Bool.true_or Bool.or_self
attribute [congr] callX_congr callF_congr
attribute [irreducible] callX callF retR retM RDs retW
end Go.Ab
