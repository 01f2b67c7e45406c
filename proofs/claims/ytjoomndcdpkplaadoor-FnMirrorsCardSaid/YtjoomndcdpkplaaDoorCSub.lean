/- Contracts of functions that write to what they are handed, where what they made themselves is forgotten. Conditions: none. -/
import Derived.Test.YtjoomndcdpkplaaDoorCSrc
namespace Go.Ab
open Go.RowKit Go.Proofs
set_option maxRecDepth 10000
set_option maxHeartbeats 4000000
set_option linter.unusedSimpArgs false
set_option linter.unusedVariables false
def isDat : AV → Bool
  | .int .. | .bool _ | .str _ | .lst _ | .nil | .dptr _ | .undef => true
  | _ => false
def Clean (H : Heap) : Prop := ∀ id B, H id = some B → ∀ x ∈ flat B.els, isDat x = true
def Sub (H H' H'' : Heap) : Prop := (∀ id, H'' id = none ∨ H'' id = H' id) ∧ ∀ id, H id ≠ none → H'' id = H' id
section
variable {P : Program} {w : World} {ι ι' : Plc} {H H' : Heap} {A A' : Nat → Prop}
theorem VR.sub {x : AV} {v : Value} (hx : isDat x = true) (h : VR w ι H A x v) (hA : ∀ b, A b → A' b) : VR w ι' H' A' x v := by
  cases h with
  | data _ _ h => exact .data _ _ (h.mono fun b hb => ⟨hA b hb, rfl⟩)
  | _ => simp [isDat] at hx
theorem noMemC_dat {x : AV} (h : noMemC x = true) : isDat x = true := by
  cases x <;> first | rfl | (simp [noMemC] at h)
theorem VR.subE {x : AV} {v : Value} (hx : noMemE x = true) (h : VR w ι H A x v) (hA : ∀ b, A b → A' b) : VR w ι' H' A' x v := by
  unfold noMemE at hx
  split at hx
  · obtain ⟨vs, rfl, hl, hc⟩ := h.of_agg
    simp only [List.all_eq_true] at hx
    exact .agg _ vs hl fun k c u h1 h2 => (hc k c u h1 h2).sub (noMemC_dat (hx c (List.mem_of_getElem? h1))) hA
  · exact h.sub (noMemC_dat hx) hA
theorem AW.mkS {f : FuncId} {fn : Func} {c : Code} {args : List AV} {res : AV} {H H'' : Heap} (nx : Nat) (hm : P.follows .mixedOrders = true) (hf : P.funcs[f]? = some fn) (hb : fn.body = some c) (hcall : ∀ vs w, (callFunc f vs).run P w = .ok (.enter f vs) w)
    (hn : args.length ≤ fn.ntmps) (hnm : noMemE res = true) (hcl : Clean H'') (h : awp P fn.ntmps c (fun e s => ∃ H', RetW P fn res H' e s ∧ Sub H H' H'') ⟨(st0 args).τ, H, nx⟩) : AW P f args H res H'' := by
  refine ⟨hcall, fun w ι A0 B0 vs hB hH hl hv => ?_⟩
  have hr : Rel A0 B0 ⟨w, ι, H⟩ fn.ntmps ⟨(st0 args).τ, H, nx⟩ ι { tmps := vs ++ Array.replicate (fn.ntmps - vs.size) undef, defers := [] } w := by
    refine ⟨fun t => ?_, by simp; omega, hH, rfl, Below.refl _ _, hB, Ev.refl _ _ _⟩
    simp only [st0]
    by_cases ht : t < vs.size
    · have h1 : args[t]? = some args[t] := List.getElem?_eq_getElem (by omega)
      have h2 : vs[t]? = some vs[t] := by simp [ht]
      have e1 : args.getD t (.tup []) = args[t] := by simp [List.getD, h1]
      have e2 : (vs ++ Array.replicate (fn.ntmps - vs.size) undef).getD t undef = vs[t] := by
        rw [Array.getD_eq_getD_getElem?, Array.getElem?_append_left ht, h2]; rfl
      rw [e1, e2]
      exact hv t _ _ h1 h2
    · have e1 : args.getD t (.tup []) = .tup [] := by simp [List.getD, List.getElem?_eq_none (show args.length ≤ t by omega)]
      have e2 : (vs ++ Array.replicate (fn.ntmps - vs.size) undef).getD t undef = undef := by
        rw [Array.getD_eq_getD_getElem?, Array.getElem?_append_right (by omega), Array.getElem?_replicate]
        split <;> rfl
      rw [e1, e2]
      exact .data _ _ (.tup [] #[] rfl (by simp))
  refine calls_of_wp hf hb (wp_mono (awp_sound hm c _ _ _ _ w h hr) fun e a' w' hq => ?_)
  obtain ⟨s, ι', ⟨H', ⟨he, hres, rfl⟩, hsub⟩, hrel⟩ := hq
  have sub : ∀ {id B}, H'' id = some B → s.H id = some B := by
    intro id B h1
    rcases hsub.1 id with h | h
    · rw [h] at h1; cases h1
    · rw [← h]; exact h1
  have no : ∀ b, NotOwn ι' s.H b → NotOwn ι' H'' b := fun b h id B L h1 h2 h3 => h id B L (sub h1) h2 h3
  have al : ∀ b, Al A0 B0 w' ι' s.H b → Al A0 B0 w' ι' H'' b := fun b h => ⟨h.1, h.2.1, no b h.2.2⟩
  have hev : Ev w ι H w' ι' H'' := by
    refine ⟨hrel.ev.size, hrel.ev.keep, fun b hb hn => no b (hrel.ev.own b hb hn), fun id B hB => ?_⟩
    have := hrel.ev.ids id B hB
    rw [hsub.2 id (by rw [hB]; simp)]
    exact this
  have hhr : HR w' ι' H'' (Al A0 B0 w' ι' H'') B0 := by
    refine ⟨fun id B L h1 h2 => ?_, fun i j B C L M h1 h2 h3 h4 => hrel.hr.sep i j B C L M (sub h1) h2 (sub h3) h4⟩
    have hb := hrel.hr.blk id B L (sub h1) h2
    refine ⟨?_, hb.low, hb.len, hb.fit, hb.free⟩
    obtain ⟨c, e, fr, q1, q2, q3⟩ := hb.row
    refine ⟨c, e, fr, q1, q2, fun k x hk => ?_⟩
    obtain ⟨u, h5, h6⟩ := q3 k x hk
    exact ⟨u, h5, h6.sub (hcl id B h1 x (List.mem_of_getElem? hk)) al⟩
  have key : a'.defers = [] ∧ ∃ v, (results fn a'.tmps).run P w' = .ok v w' ∧ ∃ v' ι', Ending.returned v = .returned v' ∧ Ev w ι H w' ι' H'' ∧ HR w' ι' H'' (Al A0 B0 w' ι' H'') B0 ∧ VR w' ι' H'' (Al A0 B0 w' ι' H'') res v' ∧ Below B0 w w' := by
    obtain ⟨v, h1, h2⟩ := results_sound hres hrel
    exact ⟨hrel.df, v, h1, v, ι', rfl, hev, hhr, h2.subE hnm al, hrel.bl⟩
  rcases he with rfl | rfl
  · exact key
  · exact key
theorem retW_mk {rs : List ResultVar} {res : AV} {e : Exit} {s : St} {l : List AV} (he : e = .normal ∨ e = .ret) (h : rs.mapM (resA P s) = some l) (h2 : tupOf l = res) : retW P rs res s.H e s := by
  unfold retW; exact ⟨he, ⟨l, h, h2⟩, rfl⟩
theorem AW.of_runS {f : FuncId} {fn : Func} {c : Code} {args : List AV} {res : AV} {H H'' : Heap} {nt : Nat} {rs : List ResultVar} (nx : Nat) (hm : P.follows .mixedOrders = true) (hf : P.funcs[f]? = some fn) (hcall : ∀ vs w, (callFunc f vs).run P w = .ok (.enter f vs) w)
    (hk : fn.body = some c ∧ fn.ntmps = nt ∧ fn.results = rs.toArray ∧ okBody nt c = true) (hn : decide (args.length ≤ nt) = true) (hnm : noMemE res = true) (hcl : Clean H'') (h : sx P c (fun e s => ∃ H', retW P rs res H' e s ∧ Sub H H' H'') ⟨(st0 args).τ, H, nx⟩) : AW P f args H res H'' := by
  obtain ⟨h1, rfl, h3, h4⟩ := hk
  refine AW.mkS nx hm hf h1 hcall (by simpa using hn) hnm hcl (awp_mono c _ _ _ ?_ (sx_sound c _ _ h4 h))
  rintro e s ⟨H', h0, h9⟩
  unfold retW at h0
  obtain ⟨h5, ⟨l, h6, h7⟩, h8⟩ := h0
  exact ⟨H', ⟨h5, by simp [resAll, h3, h6, h7], h8⟩, h9⟩
end
end Go.Ab
