/-
  No cell of these rows narrows 'for every input' (looked for: loops, veiled, ifaces, maps, wideKeys, modest, calm, conditions, laid).
  DERIVED. THE GIVEN ROWS OF THIS SEAT. 12 by the template 'for every input the law returns true; each argument reads behind the call as it read before'; 0 by the template 'total and deterministic' (their statements: YtkpcbgoljkccbaaTotals.lean).
  GIVEN WITH THE SEED: the statements are not yours to turn. If you find one false, say at which input.
  Laid BY PROGRAM, IN A SANDBOX (cutbox-rows.mjs): the forced cells as the released guide's own fill.sh prints them over the translation 6f65ec7daa858cd9… (all of the seat's roots in one cut). By AI agents, Wed Nov 11 2026. No macro, syntax, notation, axiom, sorry.
-/
import Derived.Test.YtkpcbgoljkccbaaChecked
import GoSem.Claim
import GoSem.ClaimJoined
import GoSem.ClaimMapViews
import Derived.JoinedTies
import Derived.KernelRfl
namespace Go.Proofs.Ytkpcbgoljkccbaa
/- THE CELL 'sum', in the pinned program and in every row, IS THE sha256 OF THE DUMP (.gsa) THAT YtkpcbgoljkccbaaProg.lean LOADS. Nothing in Lean hashes anything: it is a label: what it is worth is what the hold of that sum in a sandbox is worth. -/
noncomputable def Try.pinned : Pinned := { name := "ytkpcbgoljkccbaa", sum := "6f65ec7daa858cd9d339957531447a92125239cec3abbb8d061bfa2c16ce83d0", checked := Try.checked }
namespace Rows
def none {H : Type} : Left H := { results := [], args := [] }

/-- 'laws.FnExactBenchWords': WHATEVER THE INPUT: true; the input reads as it did. -/
def fnExactBenchWordsSpec : ChangeSpec := { name := "fnExactBenchWords", fn := fun _ => fun
  | [] => { results := [.lit (.bool true)], args := [] }
  | _ => none }
def fnExactBenchWordsRow : OpenClaim := { program := "ytkpcbgoljkccbaa", sum := "6f65ec7daa858cd9d339957531447a92125239cec3abbb8d061bfa2c16ce83d0", func := "loop.example/g00899/laws.FnExactBenchWords", spec := "fnExactBenchWords", apart := false }
def FnExactBenchWordsSaid : Prop := fnExactBenchWordsRow.holds Try.pinned (OpenSpec.ofChange fnExactBenchWordsSpec)

/-- ITS FALSE NEIGHBOUR: 'it returns false'. Refute it at one input. -/
def fnExactBenchWordsWrong : ChangeSpec := { name := "fnExactBenchWords", fn := fun _ => fun
  | [] => { results := [.lit (.bool false)], args := [] }
  | _ => none }
def FnExactBenchWordsWrongFalsely : Prop := fnExactBenchWordsRow.holds Try.pinned (OpenSpec.ofChange fnExactBenchWordsWrong)

/-- 'laws.FnExactSamePatch': WHATEVER THE INPUT: true; the input reads as it did. -/
def fnExactSamePatchSpec : ChangeSpec := { name := "fnExactSamePatch", fn := fun _ => fun
  | [d1, d2] => { results := [.lit (.bool true)], args := [d1, d2] }
  | _ => none }
def fnExactSamePatchRow : OpenClaim := { program := "ytkpcbgoljkccbaa", sum := "6f65ec7daa858cd9d339957531447a92125239cec3abbb8d061bfa2c16ce83d0", func := "loop.example/g00899/laws.FnExactSamePatch", spec := "fnExactSamePatch", apart := false }
def FnExactSamePatchSaid : Prop := fnExactSamePatchRow.holds Try.pinned (OpenSpec.ofChange fnExactSamePatchSpec)

/-- ITS FALSE NEIGHBOUR: 'it returns false'. Refute it at one input. -/
def fnExactSamePatchWrong : ChangeSpec := { name := "fnExactSamePatch", fn := fun _ => fun
  | [d1, d2] => { results := [.lit (.bool false)], args := [d1, d2] }
  | _ => none }
def FnExactSamePatchWrongFalsely : Prop := fnExactSamePatchRow.holds Try.pinned (OpenSpec.ofChange fnExactSamePatchWrong)

/-- 'laws.FnExactDumpCart': WHATEVER THE INPUT: true; the input reads as it did. -/
def fnExactDumpCartSpec : ChangeSpec := { name := "fnExactDumpCart", fn := fun _ => fun
  | [d] => { results := [.lit (.bool true)], args := [d] }
  | _ => none }
def fnExactDumpCartRow : OpenClaim := { program := "ytkpcbgoljkccbaa", sum := "6f65ec7daa858cd9d339957531447a92125239cec3abbb8d061bfa2c16ce83d0", func := "loop.example/g00899/laws.FnExactDumpCart", spec := "fnExactDumpCart", apart := false }
def FnExactDumpCartSaid : Prop := fnExactDumpCartRow.holds Try.pinned (OpenSpec.ofChange fnExactDumpCartSpec)

/-- ITS FALSE NEIGHBOUR: 'it returns false'. Refute it at one input. -/
def fnExactDumpCartWrong : ChangeSpec := { name := "fnExactDumpCart", fn := fun _ => fun
  | [d] => { results := [.lit (.bool false)], args := [d] }
  | _ => none }
def FnExactDumpCartWrongFalsely : Prop := fnExactDumpCartRow.holds Try.pinned (OpenSpec.ofChange fnExactDumpCartWrong)

/-- 'laws.FnExactPokeCart': WHATEVER THE INPUT: true; the input reads as it did. -/
def fnExactPokeCartSpec : ChangeSpec := { name := "fnExactPokeCart", fn := fun _ => fun
  | [d1, d2, d3] => { results := [.lit (.bool true)], args := [d1, d2, d3] }
  | _ => none }
def fnExactPokeCartRow : OpenClaim := { program := "ytkpcbgoljkccbaa", sum := "6f65ec7daa858cd9d339957531447a92125239cec3abbb8d061bfa2c16ce83d0", func := "loop.example/g00899/laws.FnExactPokeCart", spec := "fnExactPokeCart", apart := false }
def FnExactPokeCartSaid : Prop := fnExactPokeCartRow.holds Try.pinned (OpenSpec.ofChange fnExactPokeCartSpec)

/-- ITS FALSE NEIGHBOUR: 'it returns false'. Refute it at one input. -/
def fnExactPokeCartWrong : ChangeSpec := { name := "fnExactPokeCart", fn := fun _ => fun
  | [d1, d2, d3] => { results := [.lit (.bool false)], args := [d1, d2, d3] }
  | _ => none }
def FnExactPokeCartWrongFalsely : Prop := fnExactPokeCartRow.holds Try.pinned (OpenSpec.ofChange fnExactPokeCartWrong)

/-- 'laws.FnExactMirrorTo': WHATEVER THE INPUT: true; the input reads as it did. -/
def fnExactMirrorToSpec : ChangeSpec := { name := "fnExactMirrorTo", fn := fun _ => fun
  | [d1, d2] => { results := [.lit (.bool true)], args := [d1, d2] }
  | _ => none }
def fnExactMirrorToRow : OpenClaim := { program := "ytkpcbgoljkccbaa", sum := "6f65ec7daa858cd9d339957531447a92125239cec3abbb8d061bfa2c16ce83d0", func := "loop.example/g00899/laws.FnExactMirrorTo", spec := "fnExactMirrorTo", inPlace := ["internal/abi.NoEscape", "internal/bytealg.MakeNoZero"], apart := false }
def FnExactMirrorToSaid : Prop := fnExactMirrorToRow.holds Try.pinned (OpenSpec.ofChange fnExactMirrorToSpec)

/-- ITS FALSE NEIGHBOUR: 'it returns false'. Refute it at one input. -/
def fnExactMirrorToWrong : ChangeSpec := { name := "fnExactMirrorTo", fn := fun _ => fun
  | [d1, d2] => { results := [.lit (.bool false)], args := [d1, d2] }
  | _ => none }
def FnExactMirrorToWrongFalsely : Prop := fnExactMirrorToRow.holds Try.pinned (OpenSpec.ofChange fnExactMirrorToWrong)

/-- 'laws.FnExactValidPatch': WHATEVER THE INPUT: true; the input reads as it did. -/
def fnExactValidPatchSpec : ChangeSpec := { name := "fnExactValidPatch", fn := fun _ => fun
  | [d] => { results := [.lit (.bool true)], args := [d] }
  | _ => none }
def fnExactValidPatchRow : OpenClaim := { program := "ytkpcbgoljkccbaa", sum := "6f65ec7daa858cd9d339957531447a92125239cec3abbb8d061bfa2c16ce83d0", func := "loop.example/g00899/laws.FnExactValidPatch", spec := "fnExactValidPatch", apart := false }
def FnExactValidPatchSaid : Prop := fnExactValidPatchRow.holds Try.pinned (OpenSpec.ofChange fnExactValidPatchSpec)

/-- ITS FALSE NEIGHBOUR: 'it returns false'. Refute it at one input. -/
def fnExactValidPatchWrong : ChangeSpec := { name := "fnExactValidPatch", fn := fun _ => fun
  | [d] => { results := [.lit (.bool false)], args := [d] }
  | _ => none }
def FnExactValidPatchWrongFalsely : Prop := fnExactValidPatchRow.holds Try.pinned (OpenSpec.ofChange fnExactValidPatchWrong)

/-- 'laws.FnExactPatchDistance': WHATEVER THE INPUT: true; the input reads as it did. -/
def fnExactPatchDistanceSpec : ChangeSpec := { name := "fnExactPatchDistance", fn := fun _ => fun
  | [d] => { results := [.lit (.bool true)], args := [d] }
  | _ => none }
def fnExactPatchDistanceRow : OpenClaim := { program := "ytkpcbgoljkccbaa", sum := "6f65ec7daa858cd9d339957531447a92125239cec3abbb8d061bfa2c16ce83d0", func := "loop.example/g00899/laws.FnExactPatchDistance", spec := "fnExactPatchDistance", apart := false }
def FnExactPatchDistanceSaid : Prop := fnExactPatchDistanceRow.holds Try.pinned (OpenSpec.ofChange fnExactPatchDistanceSpec)

/-- ITS FALSE NEIGHBOUR: 'it returns false'. Refute it at one input. -/
def fnExactPatchDistanceWrong : ChangeSpec := { name := "fnExactPatchDistance", fn := fun _ => fun
  | [d] => { results := [.lit (.bool false)], args := [d] }
  | _ => none }
def FnExactPatchDistanceWrongFalsely : Prop := fnExactPatchDistanceRow.holds Try.pinned (OpenSpec.ofChange fnExactPatchDistanceWrong)

/-- 'laws.FnExactNewBench': WHATEVER THE INPUT: true; the input reads as it did. -/
def fnExactNewBenchSpec : ChangeSpec := { name := "fnExactNewBench", fn := fun _ => fun
  | [] => { results := [.lit (.bool true)], args := [] }
  | _ => none }
def fnExactNewBenchRow : OpenClaim := { program := "ytkpcbgoljkccbaa", sum := "6f65ec7daa858cd9d339957531447a92125239cec3abbb8d061bfa2c16ce83d0", func := "loop.example/g00899/laws.FnExactNewBench", spec := "fnExactNewBench", apart := false }
def FnExactNewBenchSaid : Prop := fnExactNewBenchRow.holds Try.pinned (OpenSpec.ofChange fnExactNewBenchSpec)

/-- ITS FALSE NEIGHBOUR: 'it returns false'. Refute it at one input. -/
def fnExactNewBenchWrong : ChangeSpec := { name := "fnExactNewBench", fn := fun _ => fun
  | [] => { results := [.lit (.bool false)], args := [] }
  | _ => none }
def FnExactNewBenchWrongFalsely : Prop := fnExactNewBenchRow.holds Try.pinned (OpenSpec.ofChange fnExactNewBenchWrong)

/-- 'laws.FnExactMakePatch': WHATEVER THE INPUT: true; the input reads as it did. -/
def fnExactMakePatchSpec : ChangeSpec := { name := "fnExactMakePatch", fn := fun _ => fun
  | [d1, d2] => { results := [.lit (.bool true)], args := [d1, d2] }
  | _ => none }
def fnExactMakePatchRow : OpenClaim := { program := "ytkpcbgoljkccbaa", sum := "6f65ec7daa858cd9d339957531447a92125239cec3abbb8d061bfa2c16ce83d0", func := "loop.example/g00899/laws.FnExactMakePatch", spec := "fnExactMakePatch", apart := false }
def FnExactMakePatchSaid : Prop := fnExactMakePatchRow.holds Try.pinned (OpenSpec.ofChange fnExactMakePatchSpec)

/-- ITS FALSE NEIGHBOUR: 'it returns false'. Refute it at one input. -/
def fnExactMakePatchWrong : ChangeSpec := { name := "fnExactMakePatch", fn := fun _ => fun
  | [d1, d2] => { results := [.lit (.bool false)], args := [d1, d2] }
  | _ => none }
def FnExactMakePatchWrongFalsely : Prop := fnExactMakePatchRow.holds Try.pinned (OpenSpec.ofChange fnExactMakePatchWrong)

/-- 'laws.FnExactSameBench': WHATEVER THE INPUT: true; the input reads as it did. -/
def fnExactSameBenchSpec : ChangeSpec := { name := "fnExactSameBench", fn := fun _ => fun
  | [d1, d2] => { results := [.lit (.bool true)], args := [d1, d2] }
  | _ => none }
def fnExactSameBenchRow : OpenClaim := { program := "ytkpcbgoljkccbaa", sum := "6f65ec7daa858cd9d339957531447a92125239cec3abbb8d061bfa2c16ce83d0", func := "loop.example/g00899/laws.FnExactSameBench", spec := "fnExactSameBench", apart := false }
def FnExactSameBenchSaid : Prop := fnExactSameBenchRow.holds Try.pinned (OpenSpec.ofChange fnExactSameBenchSpec)

/-- ITS FALSE NEIGHBOUR: 'it returns false'. Refute it at one input. -/
def fnExactSameBenchWrong : ChangeSpec := { name := "fnExactSameBench", fn := fun _ => fun
  | [d1, d2] => { results := [.lit (.bool false)], args := [d1, d2] }
  | _ => none }
def FnExactSameBenchWrongFalsely : Prop := fnExactSameBenchRow.holds Try.pinned (OpenSpec.ofChange fnExactSameBenchWrong)

/-- 'laws.FnExactEncodePatch': WHATEVER THE INPUT: true; the input reads as it did. -/
def fnExactEncodePatchSpec : ChangeSpec := { name := "fnExactEncodePatch", fn := fun _ => fun
  | [d] => { results := [.lit (.bool true)], args := [d] }
  | _ => none }
def fnExactEncodePatchRow : OpenClaim := { program := "ytkpcbgoljkccbaa", sum := "6f65ec7daa858cd9d339957531447a92125239cec3abbb8d061bfa2c16ce83d0", func := "loop.example/g00899/laws.FnExactEncodePatch", spec := "fnExactEncodePatch", inPlace := ["internal/abi.NoEscape"], apart := false }
def FnExactEncodePatchSaid : Prop := fnExactEncodePatchRow.holds Try.pinned (OpenSpec.ofChange fnExactEncodePatchSpec)

/-- ITS FALSE NEIGHBOUR: 'it returns false'. Refute it at one input. -/
def fnExactEncodePatchWrong : ChangeSpec := { name := "fnExactEncodePatch", fn := fun _ => fun
  | [d] => { results := [.lit (.bool false)], args := [d] }
  | _ => none }
def FnExactEncodePatchWrongFalsely : Prop := fnExactEncodePatchRow.holds Try.pinned (OpenSpec.ofChange fnExactEncodePatchWrong)

/-- 'laws.FnExactInvertPatch': WHATEVER THE INPUT: true; the input reads as it did. -/
def fnExactInvertPatchSpec : ChangeSpec := { name := "fnExactInvertPatch", fn := fun _ => fun
  | [d] => { results := [.lit (.bool true)], args := [d] }
  | _ => none }
def fnExactInvertPatchRow : OpenClaim := { program := "ytkpcbgoljkccbaa", sum := "6f65ec7daa858cd9d339957531447a92125239cec3abbb8d061bfa2c16ce83d0", func := "loop.example/g00899/laws.FnExactInvertPatch", spec := "fnExactInvertPatch", apart := false }
def FnExactInvertPatchSaid : Prop := fnExactInvertPatchRow.holds Try.pinned (OpenSpec.ofChange fnExactInvertPatchSpec)

/-- ITS FALSE NEIGHBOUR: 'it returns false'. Refute it at one input. -/
def fnExactInvertPatchWrong : ChangeSpec := { name := "fnExactInvertPatch", fn := fun _ => fun
  | [d] => { results := [.lit (.bool false)], args := [d] }
  | _ => none }
def FnExactInvertPatchWrongFalsely : Prop := fnExactInvertPatchRow.holds Try.pinned (OpenSpec.ofChange fnExactInvertPatchWrong)

/- THE SECOND FORM. 'bulk': how many values and letters a reading holds, each counted each time it is reached (what is shared counts as often as it is met; a slice's spare places count too). A statement '..UptoSaid' is the law's where the arguments, and the package variables that the reading takes, are together of bulk at most 1048576: NARROWER than '..Said'. Prove '..Said' where nothing that the law and all that it calls make is longer than what came in: it says more and counts as full. Else prove '..UptoSaid'. A law counts once. -/
mutual
def uptoBulk {H : Type} : DataW H → Nat
  | .lit (.string bytes) => bytes.length + 1
  | .lit _ => 1
  | .nil => 1
  | .ptr d => uptoBulk d + 1
  | .slice elems spare => uptoBulkAll elems + uptoBulkAll spare + 1
  | .agg parts => uptoBulkAll parts + 1
  | .iface _ d => uptoBulk d + 1
  | .map entries => uptoBulkEntries entries + 1
  | .held _ => 1
def uptoBulkAll {H : Type} : List (DataW H) → Nat
  | [] => 0
  | d :: r => uptoBulk d + uptoBulkAll r
def uptoBulkEntries {H : Type} : List (Lit × DataW H) → Nat
  | [] => 0
  | x :: r => uptoBulkEntry x + uptoBulkEntries r
def uptoBulkEntry {H : Type} : Lit × DataW H → Nat
  | (.string bytes, d) => bytes.length + uptoBulk d + 1
  | (_, d) => uptoBulk d + 1
 end
def uptoSmall : (H : Type) → List (DataW H) → Bool := fun _ ds => decide (uptoBulkAll ds ≤ 1048576)
def OpenSpec.upto (s : _root_.Go.ChangeSpec) : _root_.Go.OpenSpec := { _root_.Go.OpenSpec.ofChange s with cond := some uptoSmall }

/-- 'laws.FnExactBenchWords', WHERE WHAT IT READS IS OF BULK AT MOST 1048576: true; the input reads as it did. -/
def fnExactBenchWordsUptoRow : OpenClaim := { program := "ytkpcbgoljkccbaa", sum := "6f65ec7daa858cd9d339957531447a92125239cec3abbb8d061bfa2c16ce83d0", func := "loop.example/g00899/laws.FnExactBenchWords", spec := "fnExactBenchWords", apart := false, narrowed := true }
def FnExactBenchWordsUptoSaid : Prop := fnExactBenchWordsUptoRow.holds Try.pinned (OpenSpec.upto fnExactBenchWordsSpec)

/-- 'laws.FnExactSamePatch', WHERE WHAT IT READS IS OF BULK AT MOST 1048576: true; the input reads as it did. -/
def fnExactSamePatchUptoRow : OpenClaim := { program := "ytkpcbgoljkccbaa", sum := "6f65ec7daa858cd9d339957531447a92125239cec3abbb8d061bfa2c16ce83d0", func := "loop.example/g00899/laws.FnExactSamePatch", spec := "fnExactSamePatch", apart := false, narrowed := true }
def FnExactSamePatchUptoSaid : Prop := fnExactSamePatchUptoRow.holds Try.pinned (OpenSpec.upto fnExactSamePatchSpec)

/-- 'laws.FnExactDumpCart', WHERE WHAT IT READS IS OF BULK AT MOST 1048576: true; the input reads as it did. -/
def fnExactDumpCartUptoRow : OpenClaim := { program := "ytkpcbgoljkccbaa", sum := "6f65ec7daa858cd9d339957531447a92125239cec3abbb8d061bfa2c16ce83d0", func := "loop.example/g00899/laws.FnExactDumpCart", spec := "fnExactDumpCart", apart := false, narrowed := true }
def FnExactDumpCartUptoSaid : Prop := fnExactDumpCartUptoRow.holds Try.pinned (OpenSpec.upto fnExactDumpCartSpec)

/-- 'laws.FnExactPokeCart', WHERE WHAT IT READS IS OF BULK AT MOST 1048576: true; the input reads as it did. -/
def fnExactPokeCartUptoRow : OpenClaim := { program := "ytkpcbgoljkccbaa", sum := "6f65ec7daa858cd9d339957531447a92125239cec3abbb8d061bfa2c16ce83d0", func := "loop.example/g00899/laws.FnExactPokeCart", spec := "fnExactPokeCart", apart := false, narrowed := true }
def FnExactPokeCartUptoSaid : Prop := fnExactPokeCartUptoRow.holds Try.pinned (OpenSpec.upto fnExactPokeCartSpec)

/-- 'laws.FnExactMirrorTo', WHERE WHAT IT READS IS OF BULK AT MOST 1048576: true; the input reads as it did. -/
def fnExactMirrorToUptoRow : OpenClaim := { program := "ytkpcbgoljkccbaa", sum := "6f65ec7daa858cd9d339957531447a92125239cec3abbb8d061bfa2c16ce83d0", func := "loop.example/g00899/laws.FnExactMirrorTo", spec := "fnExactMirrorTo", inPlace := ["internal/abi.NoEscape", "internal/bytealg.MakeNoZero"], apart := false, narrowed := true }
def FnExactMirrorToUptoSaid : Prop := fnExactMirrorToUptoRow.holds Try.pinned (OpenSpec.upto fnExactMirrorToSpec)

/-- 'laws.FnExactValidPatch', WHERE WHAT IT READS IS OF BULK AT MOST 1048576: true; the input reads as it did. -/
def fnExactValidPatchUptoRow : OpenClaim := { program := "ytkpcbgoljkccbaa", sum := "6f65ec7daa858cd9d339957531447a92125239cec3abbb8d061bfa2c16ce83d0", func := "loop.example/g00899/laws.FnExactValidPatch", spec := "fnExactValidPatch", apart := false, narrowed := true }
def FnExactValidPatchUptoSaid : Prop := fnExactValidPatchUptoRow.holds Try.pinned (OpenSpec.upto fnExactValidPatchSpec)

/-- 'laws.FnExactPatchDistance', WHERE WHAT IT READS IS OF BULK AT MOST 1048576: true; the input reads as it did. -/
def fnExactPatchDistanceUptoRow : OpenClaim := { program := "ytkpcbgoljkccbaa", sum := "6f65ec7daa858cd9d339957531447a92125239cec3abbb8d061bfa2c16ce83d0", func := "loop.example/g00899/laws.FnExactPatchDistance", spec := "fnExactPatchDistance", apart := false, narrowed := true }
def FnExactPatchDistanceUptoSaid : Prop := fnExactPatchDistanceUptoRow.holds Try.pinned (OpenSpec.upto fnExactPatchDistanceSpec)

/-- 'laws.FnExactNewBench', WHERE WHAT IT READS IS OF BULK AT MOST 1048576: true; the input reads as it did. -/
def fnExactNewBenchUptoRow : OpenClaim := { program := "ytkpcbgoljkccbaa", sum := "6f65ec7daa858cd9d339957531447a92125239cec3abbb8d061bfa2c16ce83d0", func := "loop.example/g00899/laws.FnExactNewBench", spec := "fnExactNewBench", apart := false, narrowed := true }
def FnExactNewBenchUptoSaid : Prop := fnExactNewBenchUptoRow.holds Try.pinned (OpenSpec.upto fnExactNewBenchSpec)

/-- 'laws.FnExactMakePatch', WHERE WHAT IT READS IS OF BULK AT MOST 1048576: true; the input reads as it did. -/
def fnExactMakePatchUptoRow : OpenClaim := { program := "ytkpcbgoljkccbaa", sum := "6f65ec7daa858cd9d339957531447a92125239cec3abbb8d061bfa2c16ce83d0", func := "loop.example/g00899/laws.FnExactMakePatch", spec := "fnExactMakePatch", apart := false, narrowed := true }
def FnExactMakePatchUptoSaid : Prop := fnExactMakePatchUptoRow.holds Try.pinned (OpenSpec.upto fnExactMakePatchSpec)

/-- 'laws.FnExactSameBench', WHERE WHAT IT READS IS OF BULK AT MOST 1048576: true; the input reads as it did. -/
def fnExactSameBenchUptoRow : OpenClaim := { program := "ytkpcbgoljkccbaa", sum := "6f65ec7daa858cd9d339957531447a92125239cec3abbb8d061bfa2c16ce83d0", func := "loop.example/g00899/laws.FnExactSameBench", spec := "fnExactSameBench", apart := false, narrowed := true }
def FnExactSameBenchUptoSaid : Prop := fnExactSameBenchUptoRow.holds Try.pinned (OpenSpec.upto fnExactSameBenchSpec)

/-- 'laws.FnExactEncodePatch', WHERE WHAT IT READS IS OF BULK AT MOST 1048576: true; the input reads as it did. -/
def fnExactEncodePatchUptoRow : OpenClaim := { program := "ytkpcbgoljkccbaa", sum := "6f65ec7daa858cd9d339957531447a92125239cec3abbb8d061bfa2c16ce83d0", func := "loop.example/g00899/laws.FnExactEncodePatch", spec := "fnExactEncodePatch", inPlace := ["internal/abi.NoEscape"], apart := false, narrowed := true }
def FnExactEncodePatchUptoSaid : Prop := fnExactEncodePatchUptoRow.holds Try.pinned (OpenSpec.upto fnExactEncodePatchSpec)

/-- 'laws.FnExactInvertPatch', WHERE WHAT IT READS IS OF BULK AT MOST 1048576: true; the input reads as it did. -/
def fnExactInvertPatchUptoRow : OpenClaim := { program := "ytkpcbgoljkccbaa", sum := "6f65ec7daa858cd9d339957531447a92125239cec3abbb8d061bfa2c16ce83d0", func := "loop.example/g00899/laws.FnExactInvertPatch", spec := "fnExactInvertPatch", apart := false, narrowed := true }
def FnExactInvertPatchUptoSaid : Prop := fnExactInvertPatchUptoRow.holds Try.pinned (OpenSpec.upto fnExactInvertPatchSpec)

end Rows
end Go.Proofs.Ytkpcbgoljkccbaa
