/-
  No cell of these rows narrows 'for every input' (looked for: loops, veiled, ifaces, maps, wideKeys, modest, calm, conditions, laid).
  DERIVED. THE GIVEN ROWS OF THIS SEAT. 7 by the template 'for every input the law returns true; each argument reads behind the call as it read before'; 0 by the template 'total and deterministic' (their statements: YthdbfnjekbnbkaaTotals.lean).
  GIVEN WITH THE SEED: the statements are not yours to turn. If you find one false, say at which input.
  Laid BY PROGRAM, IN A SANDBOX (cutbox-rows.mjs): the forced cells as the released guide's own fill.sh prints them over the translation 1352947d1bb9b204… (all of the seat's roots in one cut). By AI agents, Wed Nov 11 2026. No macro, syntax, notation, axiom, sorry.
-/
import Derived.Test.YthdbfnjekbnbkaaChecked
import GoSem.Claim
import GoSem.ClaimJoined
import GoSem.ClaimMapViews
import Derived.JoinedTies
import Derived.KernelRfl
namespace Go.Proofs.Ythdbfnjekbnbkaa
/- THE CELL 'sum', in the pinned program and in every row, IS THE sha256 OF THE DUMP (.gsa) THAT YthdbfnjekbnbkaaProg.lean LOADS. Nothing in Lean hashes anything: it is a label: what it is worth is what the hold of that sum in a sandbox is worth. -/
noncomputable def Try.pinned : Pinned := { name := "ythdbfnjekbnbkaa", sum := "1352947d1bb9b2046970a1c4c48d0911a822d2c8f90bf1e2cd79d346a1bf5d1f", checked := Try.checked }
namespace Rows
def none {H : Type} : Left H := { results := [], args := [] }

/-- 'laws.FnExactApplyPatch': WHATEVER THE INPUT: true; the input reads as it did. -/
def fnExactApplyPatchSpec : ChangeSpec := { name := "fnExactApplyPatch", fn := fun _ => fun
  | [d1, d2] => { results := [.lit (.bool true)], args := [d1, d2] }
  | _ => none }
def fnExactApplyPatchRow : OpenClaim := { program := "ythdbfnjekbnbkaa", sum := "1352947d1bb9b2046970a1c4c48d0911a822d2c8f90bf1e2cd79d346a1bf5d1f", func := "loop.example/g00899/laws.FnExactApplyPatch", spec := "fnExactApplyPatch", apart := false }
def FnExactApplyPatchSaid : Prop := fnExactApplyPatchRow.holds Try.pinned (OpenSpec.ofChange fnExactApplyPatchSpec)

/-- ITS FALSE NEIGHBOUR: 'it returns false'. Refute it at one input. -/
def fnExactApplyPatchWrong : ChangeSpec := { name := "fnExactApplyPatch", fn := fun _ => fun
  | [d1, d2] => { results := [.lit (.bool false)], args := [d1, d2] }
  | _ => none }
def FnExactApplyPatchWrongFalsely : Prop := fnExactApplyPatchRow.holds Try.pinned (OpenSpec.ofChange fnExactApplyPatchWrong)

/-- 'laws.FnExactCarveAt': WHATEVER THE INPUT: true; the input reads as it did. -/
def fnExactCarveAtSpec : ChangeSpec := { name := "fnExactCarveAt", fn := fun _ => fun
  | [d1, d2, d3, d4, d5] => { results := [.lit (.bool true)], args := [d1, d2, d3, d4, d5] }
  | _ => none }
def fnExactCarveAtRow : OpenClaim := { program := "ythdbfnjekbnbkaa", sum := "1352947d1bb9b2046970a1c4c48d0911a822d2c8f90bf1e2cd79d346a1bf5d1f", func := "loop.example/g00899/laws.FnExactCarveAt", spec := "fnExactCarveAt", inPlace := ["internal/abi.NoEscape", "internal/bytealg.MakeNoZero", "internal/bytealg.IndexByteString", "internal/bytealg.IndexString"], unfollowed := true, recurses := true, named := ["internal/bytealg.MaxLen"], apart := false }
def FnExactCarveAtSaid : Prop := fnExactCarveAtRow.holds Try.pinned (OpenSpec.ofChange fnExactCarveAtSpec)

/-- ITS FALSE NEIGHBOUR: 'it returns false'. Refute it at one input. -/
def fnExactCarveAtWrong : ChangeSpec := { name := "fnExactCarveAt", fn := fun _ => fun
  | [d1, d2, d3, d4, d5] => { results := [.lit (.bool false)], args := [d1, d2, d3, d4, d5] }
  | _ => none }
def FnExactCarveAtWrongFalsely : Prop := fnExactCarveAtRow.holds Try.pinned (OpenSpec.ofChange fnExactCarveAtWrong)

/-- 'laws.FnExactDecodePatch': WHATEVER THE INPUT: true; the input reads as it did. -/
def fnExactDecodePatchSpec : ChangeSpec := { name := "fnExactDecodePatch", fn := fun _ => fun
  | [d] => { results := [.lit (.bool true)], args := [d] }
  | _ => none }
def fnExactDecodePatchRow : OpenClaim := { program := "ythdbfnjekbnbkaa", sum := "1352947d1bb9b2046970a1c4c48d0911a822d2c8f90bf1e2cd79d346a1bf5d1f", func := "loop.example/g00899/laws.FnExactDecodePatch", spec := "fnExactDecodePatch", apart := false }
def FnExactDecodePatchSaid : Prop := fnExactDecodePatchRow.holds Try.pinned (OpenSpec.ofChange fnExactDecodePatchSpec)

/-- ITS FALSE NEIGHBOUR: 'it returns false'. Refute it at one input. -/
def fnExactDecodePatchWrong : ChangeSpec := { name := "fnExactDecodePatch", fn := fun _ => fun
  | [d] => { results := [.lit (.bool false)], args := [d] }
  | _ => none }
def FnExactDecodePatchWrongFalsely : Prop := fnExactDecodePatchRow.holds Try.pinned (OpenSpec.ofChange fnExactDecodePatchWrong)

/-- 'laws.FnPatchCompose': WHATEVER THE INPUT: true; the input reads as it did. -/
def fnPatchComposeSpec : ChangeSpec := { name := "fnPatchCompose", fn := fun _ => fun
  | [d] => { results := [.lit (.bool true)], args := [d] }
  | _ => none }
def fnPatchComposeRow : OpenClaim := { program := "ythdbfnjekbnbkaa", sum := "1352947d1bb9b2046970a1c4c48d0911a822d2c8f90bf1e2cd79d346a1bf5d1f", func := "loop.example/g00899/laws.FnPatchCompose", spec := "fnPatchCompose", unfollowed := true, recurses := true, apart := false }
def FnPatchComposeSaid : Prop := fnPatchComposeRow.holds Try.pinned (OpenSpec.ofChange fnPatchComposeSpec)

/-- ITS FALSE NEIGHBOUR: 'it returns false'. Refute it at one input. -/
def fnPatchComposeWrong : ChangeSpec := { name := "fnPatchCompose", fn := fun _ => fun
  | [d] => { results := [.lit (.bool false)], args := [d] }
  | _ => none }
def FnPatchComposeWrongFalsely : Prop := fnPatchComposeRow.holds Try.pinned (OpenSpec.ofChange fnPatchComposeWrong)

/-- 'laws.FnPatch': WHATEVER THE INPUT: true; the input reads as it did. -/
def fnPatchSpec : ChangeSpec := { name := "fnPatch", fn := fun _ => fun
  | [d] => { results := [.lit (.bool true)], args := [d] }
  | _ => none }
def fnPatchRow : OpenClaim := { program := "ythdbfnjekbnbkaa", sum := "1352947d1bb9b2046970a1c4c48d0911a822d2c8f90bf1e2cd79d346a1bf5d1f", func := "loop.example/g00899/laws.FnPatch", spec := "fnPatch", inPlace := ["internal/abi.NoEscape"], apart := false }
def FnPatchSaid : Prop := fnPatchRow.holds Try.pinned (OpenSpec.ofChange fnPatchSpec)

/-- ITS FALSE NEIGHBOUR: 'it returns false'. Refute it at one input. -/
def fnPatchWrong : ChangeSpec := { name := "fnPatch", fn := fun _ => fun
  | [d] => { results := [.lit (.bool false)], args := [d] }
  | _ => none }
def FnPatchWrongFalsely : Prop := fnPatchRow.holds Try.pinned (OpenSpec.ofChange fnPatchWrong)

/-- 'laws.FnExactApplyAll': WHATEVER THE INPUT: true; the input reads as it did. -/
def fnExactApplyAllSpec : ChangeSpec := { name := "fnExactApplyAll", fn := fun _ => fun
  | [d1, d2] => { results := [.lit (.bool true)], args := [d1, d2] }
  | _ => none }
def fnExactApplyAllRow : OpenClaim := { program := "ythdbfnjekbnbkaa", sum := "1352947d1bb9b2046970a1c4c48d0911a822d2c8f90bf1e2cd79d346a1bf5d1f", func := "loop.example/g00899/laws.FnExactApplyAll", spec := "fnExactApplyAll", unfollowed := true, recurses := true, apart := false }
def FnExactApplyAllSaid : Prop := fnExactApplyAllRow.holds Try.pinned (OpenSpec.ofChange fnExactApplyAllSpec)

/-- ITS FALSE NEIGHBOUR: 'it returns false'. Refute it at one input. -/
def fnExactApplyAllWrong : ChangeSpec := { name := "fnExactApplyAll", fn := fun _ => fun
  | [d1, d2] => { results := [.lit (.bool false)], args := [d1, d2] }
  | _ => none }
def FnExactApplyAllWrongFalsely : Prop := fnExactApplyAllRow.holds Try.pinned (OpenSpec.ofChange fnExactApplyAllWrong)

/-- 'laws.FnExactPatchesOf': WHATEVER THE INPUT: true; the input reads as it did. -/
def fnExactPatchesOfSpec : ChangeSpec := { name := "fnExactPatchesOf", fn := fun _ => fun
  | [d] => { results := [.lit (.bool true)], args := [d] }
  | _ => none }
def fnExactPatchesOfRow : OpenClaim := { program := "ythdbfnjekbnbkaa", sum := "1352947d1bb9b2046970a1c4c48d0911a822d2c8f90bf1e2cd79d346a1bf5d1f", func := "loop.example/g00899/laws.FnExactPatchesOf", spec := "fnExactPatchesOf", apart := false }
def FnExactPatchesOfSaid : Prop := fnExactPatchesOfRow.holds Try.pinned (OpenSpec.ofChange fnExactPatchesOfSpec)

/-- ITS FALSE NEIGHBOUR: 'it returns false'. Refute it at one input. -/
def fnExactPatchesOfWrong : ChangeSpec := { name := "fnExactPatchesOf", fn := fun _ => fun
  | [d] => { results := [.lit (.bool false)], args := [d] }
  | _ => none }
def FnExactPatchesOfWrongFalsely : Prop := fnExactPatchesOfRow.holds Try.pinned (OpenSpec.ofChange fnExactPatchesOfWrong)

/- THE SECOND FORM. 'bulk': how many values and letters a reading holds, each counted each time it is reached (what is shared counts as often as it is met; a slice's spare places count too). A statement '..UptoSaid' is the law's where the arguments, and the package variables that the reading takes, are together of bulk at most 1048576: NARROWER than '..Said'. Prove '..Said' where nothing that the law and all that it calls make is longer than what came in: it says more and counts as full. Else prove '..UptoSaid'. A law counts once. -/
mutual
def uptoBulk {H : Type} : DataW H → Nat
  | .lit (.string bytes) => bytes.length + 1
  | .lit _ => 1
  | .nil => 1
  | .ptr d => uptoBulk d + 1
  | .slice elems spare => uptoBulkAll elems + uptoBulkAll spare + 1
  | .agg parts => uptoBulkAll parts + 1
  | .iface _ d => uptoBulk d + 1
  | .map entries => uptoBulkEntries entries + 1
  | .held _ => 1
def uptoBulkAll {H : Type} : List (DataW H) → Nat
  | [] => 0
  | d :: r => uptoBulk d + uptoBulkAll r
def uptoBulkEntries {H : Type} : List (Lit × DataW H) → Nat
  | [] => 0
  | x :: r => uptoBulkEntry x + uptoBulkEntries r
def uptoBulkEntry {H : Type} : Lit × DataW H → Nat
  | (.string bytes, d) => bytes.length + uptoBulk d + 1
  | (_, d) => uptoBulk d + 1
 end
def uptoSmall : (H : Type) → List (DataW H) → Bool := fun _ ds => decide (uptoBulkAll ds ≤ 1048576)
def OpenSpec.upto (s : _root_.Go.ChangeSpec) : _root_.Go.OpenSpec := { _root_.Go.OpenSpec.ofChange s with cond := some uptoSmall }

/-- 'laws.FnExactApplyPatch', WHERE WHAT IT READS IS OF BULK AT MOST 1048576: true; the input reads as it did. -/
def fnExactApplyPatchUptoRow : OpenClaim := { program := "ythdbfnjekbnbkaa", sum := "1352947d1bb9b2046970a1c4c48d0911a822d2c8f90bf1e2cd79d346a1bf5d1f", func := "loop.example/g00899/laws.FnExactApplyPatch", spec := "fnExactApplyPatch", apart := false, narrowed := true }
def FnExactApplyPatchUptoSaid : Prop := fnExactApplyPatchUptoRow.holds Try.pinned (OpenSpec.upto fnExactApplyPatchSpec)

/-- 'laws.FnExactCarveAt', WHERE WHAT IT READS IS OF BULK AT MOST 1048576: true; the input reads as it did. -/
def fnExactCarveAtUptoRow : OpenClaim := { program := "ythdbfnjekbnbkaa", sum := "1352947d1bb9b2046970a1c4c48d0911a822d2c8f90bf1e2cd79d346a1bf5d1f", func := "loop.example/g00899/laws.FnExactCarveAt", spec := "fnExactCarveAt", inPlace := ["internal/abi.NoEscape", "internal/bytealg.MakeNoZero", "internal/bytealg.IndexByteString", "internal/bytealg.IndexString"], unfollowed := true, recurses := true, named := ["internal/bytealg.MaxLen"], apart := false, narrowed := true }
def FnExactCarveAtUptoSaid : Prop := fnExactCarveAtUptoRow.holds Try.pinned (OpenSpec.upto fnExactCarveAtSpec)

/-- 'laws.FnExactDecodePatch', WHERE WHAT IT READS IS OF BULK AT MOST 1048576: true; the input reads as it did. -/
def fnExactDecodePatchUptoRow : OpenClaim := { program := "ythdbfnjekbnbkaa", sum := "1352947d1bb9b2046970a1c4c48d0911a822d2c8f90bf1e2cd79d346a1bf5d1f", func := "loop.example/g00899/laws.FnExactDecodePatch", spec := "fnExactDecodePatch", apart := false, narrowed := true }
def FnExactDecodePatchUptoSaid : Prop := fnExactDecodePatchUptoRow.holds Try.pinned (OpenSpec.upto fnExactDecodePatchSpec)

/-- 'laws.FnPatchCompose', WHERE WHAT IT READS IS OF BULK AT MOST 1048576: true; the input reads as it did. -/
def fnPatchComposeUptoRow : OpenClaim := { program := "ythdbfnjekbnbkaa", sum := "1352947d1bb9b2046970a1c4c48d0911a822d2c8f90bf1e2cd79d346a1bf5d1f", func := "loop.example/g00899/laws.FnPatchCompose", spec := "fnPatchCompose", unfollowed := true, recurses := true, apart := false, narrowed := true }
def FnPatchComposeUptoSaid : Prop := fnPatchComposeUptoRow.holds Try.pinned (OpenSpec.upto fnPatchComposeSpec)

/-- 'laws.FnPatch', WHERE WHAT IT READS IS OF BULK AT MOST 1048576: true; the input reads as it did. -/
def fnPatchUptoRow : OpenClaim := { program := "ythdbfnjekbnbkaa", sum := "1352947d1bb9b2046970a1c4c48d0911a822d2c8f90bf1e2cd79d346a1bf5d1f", func := "loop.example/g00899/laws.FnPatch", spec := "fnPatch", inPlace := ["internal/abi.NoEscape"], apart := false, narrowed := true }
def FnPatchUptoSaid : Prop := fnPatchUptoRow.holds Try.pinned (OpenSpec.upto fnPatchSpec)

/-- 'laws.FnExactApplyAll', WHERE WHAT IT READS IS OF BULK AT MOST 1048576: true; the input reads as it did. -/
def fnExactApplyAllUptoRow : OpenClaim := { program := "ythdbfnjekbnbkaa", sum := "1352947d1bb9b2046970a1c4c48d0911a822d2c8f90bf1e2cd79d346a1bf5d1f", func := "loop.example/g00899/laws.FnExactApplyAll", spec := "fnExactApplyAll", unfollowed := true, recurses := true, apart := false, narrowed := true }
def FnExactApplyAllUptoSaid : Prop := fnExactApplyAllUptoRow.holds Try.pinned (OpenSpec.upto fnExactApplyAllSpec)

/-- 'laws.FnExactPatchesOf', WHERE WHAT IT READS IS OF BULK AT MOST 1048576: true; the input reads as it did. -/
def fnExactPatchesOfUptoRow : OpenClaim := { program := "ythdbfnjekbnbkaa", sum := "1352947d1bb9b2046970a1c4c48d0911a822d2c8f90bf1e2cd79d346a1bf5d1f", func := "loop.example/g00899/laws.FnExactPatchesOf", spec := "fnExactPatchesOf", apart := false, narrowed := true }
def FnExactPatchesOfUptoSaid : Prop := fnExactPatchesOfUptoRow.holds Try.pinned (OpenSpec.upto fnExactPatchesOfSpec)

end Rows
end Go.Proofs.Ythdbfnjekbnbkaa
