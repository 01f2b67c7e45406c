/-
  No cell of these rows narrows 'for every input' (looked for: loops, veiled, ifaces, maps, wideKeys, modest, calm, conditions, laid).
  DERIVED. THE GIVEN ROWS OF THIS SEAT. 6 by the template 'for every input the law returns true; each argument reads behind the call as it read before'; 0 by the template 'total and deterministic' (their statements: YtolpmgojeipekaaTotals.lean).
  GIVEN WITH THE SEED: the statements are not yours to turn. If you find one false, say at which input.
  Laid BY PROGRAM, IN A SANDBOX (cutbox-rows.mjs): the forced cells as the released guide's own fill.sh prints them over the translation d6c055a74af1b575… (all of the seat's roots in one cut). By AI agents, Wed Nov 11 2026. No macro, syntax, notation, axiom, sorry.
-/
import Derived.Test.YtolpmgojeipekaaChecked
import GoSem.Claim
import GoSem.ClaimJoined
import GoSem.ClaimMapViews
import Derived.JoinedTies
import Derived.KernelRfl
namespace Go.Proofs.Ytolpmgojeipekaa
/- THE CELL 'sum', in the pinned program and in every row, IS THE sha256 OF THE DUMP (.gsa) THAT YtolpmgojeipekaaProg.lean LOADS. Nothing in Lean hashes anything: it is a label: what it is worth is what the hold of that sum in a sandbox is worth. -/
noncomputable def Try.pinned : Pinned := { name := "ytolpmgojeipekaa", sum := "d6c055a74af1b575f80ee799da9ce175ee3691b27b14aed1a68988daf5ed5e01", checked := Try.checked }
namespace Rows
def none {H : Type} : Left H := { results := [], args := [] }

/-- 'laws.FnExactValidShape': WHATEVER THE INPUT: true; the input reads as it did. -/
def fnExactValidShapeSpec : ChangeSpec := { name := "fnExactValidShape", fn := fun _ => fun
  | [d] => { results := [.lit (.bool true)], args := [d] }
  | _ => none }
def fnExactValidShapeRow : OpenClaim := { program := "ytolpmgojeipekaa", sum := "d6c055a74af1b575f80ee799da9ce175ee3691b27b14aed1a68988daf5ed5e01", func := "loop.example/g00899/laws.FnExactValidShape", spec := "fnExactValidShape", apart := false }
def FnExactValidShapeSaid : Prop := fnExactValidShapeRow.holds Try.pinned (OpenSpec.ofChange fnExactValidShapeSpec)

/-- ITS FALSE NEIGHBOUR: 'it returns false'. Refute it at one input. -/
def fnExactValidShapeWrong : ChangeSpec := { name := "fnExactValidShape", fn := fun _ => fun
  | [d] => { results := [.lit (.bool false)], args := [d] }
  | _ => none }
def FnExactValidShapeWrongFalsely : Prop := fnExactValidShapeRow.holds Try.pinned (OpenSpec.ofChange fnExactValidShapeWrong)

/-- 'laws.FnExactBenchWords': WHATEVER THE INPUT: true; the input reads as it did. -/
def fnExactBenchWordsSpec : ChangeSpec := { name := "fnExactBenchWords", fn := fun _ => fun
  | [] => { results := [.lit (.bool true)], args := [] }
  | _ => none }
def fnExactBenchWordsRow : OpenClaim := { program := "ytolpmgojeipekaa", sum := "d6c055a74af1b575f80ee799da9ce175ee3691b27b14aed1a68988daf5ed5e01", func := "loop.example/g00899/laws.FnExactBenchWords", spec := "fnExactBenchWords", apart := false }
def FnExactBenchWordsSaid : Prop := fnExactBenchWordsRow.holds Try.pinned (OpenSpec.ofChange fnExactBenchWordsSpec)

/-- ITS FALSE NEIGHBOUR: 'it returns false'. Refute it at one input. -/
def fnExactBenchWordsWrong : ChangeSpec := { name := "fnExactBenchWords", fn := fun _ => fun
  | [] => { results := [.lit (.bool false)], args := [] }
  | _ => none }
def FnExactBenchWordsWrongFalsely : Prop := fnExactBenchWordsRow.holds Try.pinned (OpenSpec.ofChange fnExactBenchWordsWrong)

/-- 'laws.FnExactStartCart': WHATEVER THE INPUT: true; the input reads as it did. -/
def fnExactStartCartSpec : ChangeSpec := { name := "fnExactStartCart", fn := fun _ => fun
  | [d] => { results := [.lit (.bool true)], args := [d] }
  | _ => none }
def fnExactStartCartRow : OpenClaim := { program := "ytolpmgojeipekaa", sum := "d6c055a74af1b575f80ee799da9ce175ee3691b27b14aed1a68988daf5ed5e01", func := "loop.example/g00899/laws.FnExactStartCart", spec := "fnExactStartCart", apart := false }
def FnExactStartCartSaid : Prop := fnExactStartCartRow.holds Try.pinned (OpenSpec.ofChange fnExactStartCartSpec)

/-- ITS FALSE NEIGHBOUR: 'it returns false'. Refute it at one input. -/
def fnExactStartCartWrong : ChangeSpec := { name := "fnExactStartCart", fn := fun _ => fun
  | [d] => { results := [.lit (.bool false)], args := [d] }
  | _ => none }
def FnExactStartCartWrongFalsely : Prop := fnExactStartCartRow.holds Try.pinned (OpenSpec.ofChange fnExactStartCartWrong)

/-- 'laws.FnExactBuildCart': WHATEVER THE INPUT: true; the input reads as it did. -/
def fnExactBuildCartSpec : ChangeSpec := { name := "fnExactBuildCart", fn := fun _ => fun
  | [d] => { results := [.lit (.bool true)], args := [d] }
  | _ => none }
def fnExactBuildCartRow : OpenClaim := { program := "ytolpmgojeipekaa", sum := "d6c055a74af1b575f80ee799da9ce175ee3691b27b14aed1a68988daf5ed5e01", func := "loop.example/g00899/laws.FnExactBuildCart", spec := "fnExactBuildCart", apart := false }
def FnExactBuildCartSaid : Prop := fnExactBuildCartRow.holds Try.pinned (OpenSpec.ofChange fnExactBuildCartSpec)

/-- ITS FALSE NEIGHBOUR: 'it returns false'. Refute it at one input. -/
def fnExactBuildCartWrong : ChangeSpec := { name := "fnExactBuildCart", fn := fun _ => fun
  | [d] => { results := [.lit (.bool false)], args := [d] }
  | _ => none }
def FnExactBuildCartWrongFalsely : Prop := fnExactBuildCartRow.holds Try.pinned (OpenSpec.ofChange fnExactBuildCartWrong)

/-- 'laws.FnExactSamePatch': WHATEVER THE INPUT: true; the input reads as it did. -/
def fnExactSamePatchSpec : ChangeSpec := { name := "fnExactSamePatch", fn := fun _ => fun
  | [d1, d2] => { results := [.lit (.bool true)], args := [d1, d2] }
  | _ => none }
def fnExactSamePatchRow : OpenClaim := { program := "ytolpmgojeipekaa", sum := "d6c055a74af1b575f80ee799da9ce175ee3691b27b14aed1a68988daf5ed5e01", func := "loop.example/g00899/laws.FnExactSamePatch", spec := "fnExactSamePatch", apart := false }
def FnExactSamePatchSaid : Prop := fnExactSamePatchRow.holds Try.pinned (OpenSpec.ofChange fnExactSamePatchSpec)

/-- ITS FALSE NEIGHBOUR: 'it returns false'. Refute it at one input. -/
def fnExactSamePatchWrong : ChangeSpec := { name := "fnExactSamePatch", fn := fun _ => fun
  | [d1, d2] => { results := [.lit (.bool false)], args := [d1, d2] }
  | _ => none }
def FnExactSamePatchWrongFalsely : Prop := fnExactSamePatchRow.holds Try.pinned (OpenSpec.ofChange fnExactSamePatchWrong)

/-- 'laws.FnExactPeekCart': WHATEVER THE INPUT: true; the input reads as it did. -/
def fnExactPeekCartSpec : ChangeSpec := { name := "fnExactPeekCart", fn := fun _ => fun
  | [d1, d2] => { results := [.lit (.bool true)], args := [d1, d2] }
  | _ => none }
def fnExactPeekCartRow : OpenClaim := { program := "ytolpmgojeipekaa", sum := "d6c055a74af1b575f80ee799da9ce175ee3691b27b14aed1a68988daf5ed5e01", func := "loop.example/g00899/laws.FnExactPeekCart", spec := "fnExactPeekCart", apart := false }
def FnExactPeekCartSaid : Prop := fnExactPeekCartRow.holds Try.pinned (OpenSpec.ofChange fnExactPeekCartSpec)

/-- ITS FALSE NEIGHBOUR: 'it returns false'. Refute it at one input. -/
def fnExactPeekCartWrong : ChangeSpec := { name := "fnExactPeekCart", fn := fun _ => fun
  | [d1, d2] => { results := [.lit (.bool false)], args := [d1, d2] }
  | _ => none }
def FnExactPeekCartWrongFalsely : Prop := fnExactPeekCartRow.holds Try.pinned (OpenSpec.ofChange fnExactPeekCartWrong)

/- THE SECOND FORM. 'bulk': how many values and letters a reading holds, each counted each time it is reached (what is shared counts as often as it is met; a slice's spare places count too). A statement '..UptoSaid' is the law's where the arguments, and the package variables that the reading takes, are together of bulk at most 1048576: NARROWER than '..Said'. Prove '..Said' where nothing that the law and all that it calls make is longer than what came in: it says more and counts as full. Else prove '..UptoSaid'. A law counts once. -/
mutual
def uptoBulk {H : Type} : DataW H → Nat
  | .lit (.string bytes) => bytes.length + 1
  | .lit _ => 1
  | .nil => 1
  | .ptr d => uptoBulk d + 1
  | .slice elems spare => uptoBulkAll elems + uptoBulkAll spare + 1
  | .agg parts => uptoBulkAll parts + 1
  | .iface _ d => uptoBulk d + 1
  | .map entries => uptoBulkEntries entries + 1
  | .held _ => 1
def uptoBulkAll {H : Type} : List (DataW H) → Nat
  | [] => 0
  | d :: r => uptoBulk d + uptoBulkAll r
def uptoBulkEntries {H : Type} : List (Lit × DataW H) → Nat
  | [] => 0
  | x :: r => uptoBulkEntry x + uptoBulkEntries r
def uptoBulkEntry {H : Type} : Lit × DataW H → Nat
  | (.string bytes, d) => bytes.length + uptoBulk d + 1
  | (_, d) => uptoBulk d + 1
 end
def uptoSmall : (H : Type) → List (DataW H) → Bool := fun _ ds => decide (uptoBulkAll ds ≤ 1048576)
def OpenSpec.upto (s : _root_.Go.ChangeSpec) : _root_.Go.OpenSpec := { _root_.Go.OpenSpec.ofChange s with cond := some uptoSmall }

/-- 'laws.FnExactValidShape', WHERE WHAT IT READS IS OF BULK AT MOST 1048576: true; the input reads as it did. -/
def fnExactValidShapeUptoRow : OpenClaim := { program := "ytolpmgojeipekaa", sum := "d6c055a74af1b575f80ee799da9ce175ee3691b27b14aed1a68988daf5ed5e01", func := "loop.example/g00899/laws.FnExactValidShape", spec := "fnExactValidShape", apart := false, narrowed := true }
def FnExactValidShapeUptoSaid : Prop := fnExactValidShapeUptoRow.holds Try.pinned (OpenSpec.upto fnExactValidShapeSpec)

/-- 'laws.FnExactBenchWords', WHERE WHAT IT READS IS OF BULK AT MOST 1048576: true; the input reads as it did. -/
def fnExactBenchWordsUptoRow : OpenClaim := { program := "ytolpmgojeipekaa", sum := "d6c055a74af1b575f80ee799da9ce175ee3691b27b14aed1a68988daf5ed5e01", func := "loop.example/g00899/laws.FnExactBenchWords", spec := "fnExactBenchWords", apart := false, narrowed := true }
def FnExactBenchWordsUptoSaid : Prop := fnExactBenchWordsUptoRow.holds Try.pinned (OpenSpec.upto fnExactBenchWordsSpec)

/-- 'laws.FnExactStartCart', WHERE WHAT IT READS IS OF BULK AT MOST 1048576: true; the input reads as it did. -/
def fnExactStartCartUptoRow : OpenClaim := { program := "ytolpmgojeipekaa", sum := "d6c055a74af1b575f80ee799da9ce175ee3691b27b14aed1a68988daf5ed5e01", func := "loop.example/g00899/laws.FnExactStartCart", spec := "fnExactStartCart", apart := false, narrowed := true }
def FnExactStartCartUptoSaid : Prop := fnExactStartCartUptoRow.holds Try.pinned (OpenSpec.upto fnExactStartCartSpec)

/-- 'laws.FnExactBuildCart', WHERE WHAT IT READS IS OF BULK AT MOST 1048576: true; the input reads as it did. -/
def fnExactBuildCartUptoRow : OpenClaim := { program := "ytolpmgojeipekaa", sum := "d6c055a74af1b575f80ee799da9ce175ee3691b27b14aed1a68988daf5ed5e01", func := "loop.example/g00899/laws.FnExactBuildCart", spec := "fnExactBuildCart", apart := false, narrowed := true }
def FnExactBuildCartUptoSaid : Prop := fnExactBuildCartUptoRow.holds Try.pinned (OpenSpec.upto fnExactBuildCartSpec)

/-- 'laws.FnExactSamePatch', WHERE WHAT IT READS IS OF BULK AT MOST 1048576: true; the input reads as it did. -/
def fnExactSamePatchUptoRow : OpenClaim := { program := "ytolpmgojeipekaa", sum := "d6c055a74af1b575f80ee799da9ce175ee3691b27b14aed1a68988daf5ed5e01", func := "loop.example/g00899/laws.FnExactSamePatch", spec := "fnExactSamePatch", apart := false, narrowed := true }
def FnExactSamePatchUptoSaid : Prop := fnExactSamePatchUptoRow.holds Try.pinned (OpenSpec.upto fnExactSamePatchSpec)

/-- 'laws.FnExactPeekCart', WHERE WHAT IT READS IS OF BULK AT MOST 1048576: true; the input reads as it did. -/
def fnExactPeekCartUptoRow : OpenClaim := { program := "ytolpmgojeipekaa", sum := "d6c055a74af1b575f80ee799da9ce175ee3691b27b14aed1a68988daf5ed5e01", func := "loop.example/g00899/laws.FnExactPeekCart", spec := "fnExactPeekCart", apart := false, narrowed := true }
def FnExactPeekCartUptoSaid : Prop := fnExactPeekCartUptoRow.holds Try.pinned (OpenSpec.upto fnExactPeekCartSpec)

end Rows
end Go.Proofs.Ytolpmgojeipekaa
