/- The contract of strings.Repeat, and of the functions that repeat. Conditions: none. -/
import Derived.Test.YthdbfnjekbnbkaaDoorCList
import Derived.Shelf.Strings.Repeat
namespace Go.Ab
open Go.RowKit Go.Proofs
set_option maxRecDepth 10000
set_option maxHeartbeats 4000000
set_option linter.unusedSimpArgs false
set_option linter.unusedVariables false
def laysRepeat_ren : Go.Shelf.Ren := ⟨fun | 105 => 75 | 212 => 93 | 99 => 30 | 165 => 94 | 166 => 95 | 170 => 96 | 169 => 97 | 263 => 111 | 264 => 112 | 206 => 68 | 240 => 113 | 241 => 114 | 276 => 129 | 277 => 130 | n => n,
  fun | 9 => 9 | 3 => 3 | 4 => 4 | 20 => 20 | 0 => 0 | 46 => 101 | 109 => 117 | 5 => 5 | 72 => 121 | 76 => 125 | 51 => 137 | 146 => 138 | 53 => 140 | 148 => 141 | 70 => 119 | 37 => 102 | 75 => 124 | 127 => 143 | 164 => 156 | 80 => 128 | n => n,
  fun n => n⟩
theorem laysRepeat : Go.Proofs.Lays.n105 Tryd.prog laysRepeat_ren := { mixed := (by kernel_rfl), f99 := Tryd.func30.trans (congrArg some (by kernel_rfl)), f105 := Tryd.func75.trans (congrArg some (by kernel_rfl)), f165 := Tryd.func94.trans (congrArg some (by kernel_rfl)), f166 := Tryd.func95.trans (congrArg some (by kernel_rfl)), f169 := Tryd.func97.trans (congrArg some (by kernel_rfl)), f170 := Tryd.func96.trans (congrArg some (by kernel_rfl)), f206 := Tryd.func68.trans (congrArg some (by kernel_rfl)), f212 := Tryd.func93.trans (congrArg some (by kernel_rfl)), f240 := Tryd.func113.trans (congrArg some (by kernel_rfl)), f241 := Tryd.func114.trans (congrArg some (by kernel_rfl)), f263 := Tryd.func111.trans (congrArg some (by kernel_rfl)), f264 := Tryd.func112.trans (congrArg some (by kernel_rfl)), f276 := Tryd.func129.trans (congrArg some (by kernel_rfl)), f277 := Tryd.func130.trans (congrArg some (by kernel_rfl)), t0 := Tryd.underlying0, a0 := Tryd.isAgg0, z0 := Tryd.sizeOf0, v0 := Tryd.zeroValue0, t3 := Tryd.underlying3, a3 := Tryd.isAgg3, z3 := Tryd.sizeOf3, v3 := Tryd.zeroValue3, t4 := Tryd.underlying4, a4 := Tryd.isAgg4, z4 := Tryd.sizeOf4, v4 := Tryd.zeroValue4, t5 := Tryd.underlying5, a5 := Tryd.isAgg5, z5 := Tryd.sizeOf5, v5 := Tryd.zeroValue5, t9 := Tryd.underlying9, a9 := Tryd.isAgg9, z9 := Tryd.sizeOf9, v9 := Tryd.zeroValue9, t20 := Tryd.underlying20, a20 := Tryd.isAgg20, z20 := Tryd.sizeOf20, v20 := Tryd.zeroValue20, t37 := Tryd.underlying102, a37 := Tryd.isAgg102, z37 := Tryd.sizeOf102, v37 := Tryd.zeroValue102, t46 := Tryd.underlying101, a46 := Tryd.isAgg101, z46 := Tryd.sizeOf101, v46 := Tryd.zeroValue101, t51 := Tryd.underlying137, a51 := Tryd.isAgg137, z51 := Tryd.sizeOf137, v51 := Tryd.zeroValue137, t53 := Tryd.underlying140, a53 := Tryd.isAgg140, z53 := Tryd.sizeOf140, v53 := Tryd.zeroValue140, t70 := Tryd.underlying119, a70 := Tryd.isAgg119, z70 := Tryd.sizeOf119, v70 := Tryd.zeroValue119, t72 := Tryd.underlying121, a72 := Tryd.isAgg121, z72 := Tryd.sizeOf121, v72 := Tryd.zeroValue121, t75 := Tryd.underlying124, a75 := Tryd.isAgg124, z75 := Tryd.sizeOf124, v75 := Tryd.zeroValue124, t76 := Tryd.underlying125, a76 := Tryd.isAgg125, z76 := Tryd.sizeOf125, v76 := Tryd.zeroValue125, t109 := Tryd.underlying117, a109 := Tryd.isAgg117, z109 := Tryd.sizeOf117, v109 := Tryd.zeroValue117, t127 := Tryd.underlying143, a127 := Tryd.isAgg143, z127 := Tryd.sizeOf143, v127 := Tryd.zeroValue143, t146 := Tryd.underlying138, a146 := Tryd.isAgg138, z146 := Tryd.sizeOf138, v146 := Tryd.zeroValue138, t148 := Tryd.underlying141, a148 := Tryd.isAgg141, z148 := Tryd.sizeOf141, v148 := Tryd.zeroValue141, t164 := Tryd.underlying156, a164 := Tryd.isAgg156, z164 := Tryd.sizeOf156, v164 := Tryd.zeroValue156 }
theorem laysExtra : Builder.Extra Tryd.prog laysRepeat_ren := { sizeBuilder := (by kernel_rfl), liesBuilder := (by kernel_rfl), t5 := laysRepeat.t5, a5 := laysRepeat.a5, z5 := laysRepeat.z5, v5 := laysRepeat.v5, infoByte := (by kernel_rfl), cellsByte := (by kernel_rfl), sizeByte := (by kernel_rfl), neB5 := (by decide) }
theorem repeat_ac (l : List UInt8) (c : Nat) (hc : c ≤ 9223372036854775807) (h : l.length * c ≤ 140737488355328) : AC Tryd.prog 75 [.str l, .int .i64 (c : Int)] (.str (Go.Lib.repeatL l c)) := by
  refine ⟨Tryd.call75, fun w A vs hA hl hv => ?_⟩
  match vs, hl with
  | ⟨[v0, v1]⟩, _ =>
    have h0 := hv 0 _ v0 rfl rfl
    have h1 := hv 1 _ v1 rfl rfl
    cases h0 with
    | str s l e =>
      cases h1 with
      | int k n =>
        have hsz : s.size = l.length := by rw [← e, Array.length_toList]; rfl
        refine (Any.strings_Repeat (ρ := laysRepeat_ren) laysRepeat laysExtra s c w hc (by rw [hsz]; exact h)).mono ?_
        rintro e' w' ⟨rfl, hb⟩
        refine ⟨_, rfl, hb, none, ?_⟩
        exact .str _ _ (by rw [e])
theorem repL_len (l : List UInt8) (c : Nat) : (Go.Lib.repeatL l c).length = c * l.length := Go.Lib.repeatL_length l c
theorem repL_succ (l : List UInt8) (c : Nat) : Go.Lib.repeatL l (c + 1) = Go.Lib.repeatL l c ++ l := by rw [Go.Lib.repeatL_add, Go.Lib.repeatL_one]
def mirR (l : List UInt8) (n : Int) : AV :=
  if l = [] then .tup [.str [], .int .i64 1] else if (0 ≤ n ∧ n ≤ 4096) ∧ n % l.length = 0 then .tup [.str (Go.Lib.repeatL l (n.toNat / l.length)), .int .i64 0] else .tup [.str [], .int .i64 2]
theorem tmod_pos {n : Int} {k : Nat} (h : 0 ≤ n) : Int.tmod n k = n % k := Int.tmod_eq_emod_of_nonneg h
end Go.Ab
