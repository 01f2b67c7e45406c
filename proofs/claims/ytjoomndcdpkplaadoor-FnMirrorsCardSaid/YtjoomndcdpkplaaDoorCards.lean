/-
  DERIVED. GIVEN WITH THE SEED: THE CARDS: each row of YtjoomndcdpkplaaDoorRows.lean that lists a variable, with what it lists TIED to the program's text (the seventh form; the later family's looks); each row that meets fmt, with fmt's text TOLD by the authors' own Lean function (tested against real Go, not proved from fmt's source: count such statements apart). THE CARD IS WHAT COUNTS. Prove the row's statement (the work); the ties are given (YtjoomndcdpkplaaDoorTie.lean); close each card by the builder's one call (the guide's Derived/Test/ToyasCard.lean, 'card_holds'). Laid BY PROGRAM, IN A SANDBOX (cutbox-door.mjs). By AI agents, Wed Nov 11 2026. No macro, syntax, notation, axiom, sorry.
-/
import Derived.Test.YtjoomndcdpkplaaDoorRows
import GoSem.ClaimSeven
namespace Go.Proofs.YtjoomndcdpkplaaDoor
namespace Rows

/-- THE TIED CARD OF 'laws.FnBanks'. -/
def fnBanksCard : Claim7 := { stood := { row := fnBanksRow, standIns := [], harness := (true, "d1ca3d26d621f152c3245100f807af32622d04d8d329faae4663d065b698daac"), looks := false }, kinds := [], alts := [], laidByText := true, laidKinds := [.data, .pinned], laidTests := true, laidLooks := .later }
def FnBanksCardSaid : Prop := Claim7.holds Tryd.pinned (.plain (OpenSpec.ofChange fnBanksSpec)) fnBanksCard

/-- THE TIED CARD OF 'laws.FnMirrors'. -/
def fnMirrorsCard : Claim7 := { stood := { row := fnMirrorsRow, standIns := [], harness := (true, "d1ca3d26d621f152c3245100f807af32622d04d8d329faae4663d065b698daac"), looks := false }, kinds := [], alts := [], laidByText := true, laidKinds := [.data, .pinned], laidTests := true, laidLooks := .later }
def FnMirrorsCardSaid : Prop := Claim7.holds Tryd.pinned (.plain (OpenSpec.ofChange fnMirrorsSpec)) fnMirrorsCard

/-- THE SECOND FORM's CARD OF 'laws.FnBanks'. -/
def fnBanksUptoCard : Claim7 := { stood := { row := fnBanksUptoRow, standIns := [], harness := (true, "d1ca3d26d621f152c3245100f807af32622d04d8d329faae4663d065b698daac"), looks := false }, kinds := [], alts := [], laidByText := true, laidKinds := [.data, .pinned], laidTests := true, laidLooks := .later }
def FnBanksUptoCardSaid : Prop := Claim7.holds Tryd.pinned (.plain (OpenSpec.upto fnBanksSpec)) fnBanksUptoCard

/-- THE SECOND FORM's CARD OF 'laws.FnMirrors'. -/
def fnMirrorsUptoCard : Claim7 := { stood := { row := fnMirrorsUptoRow, standIns := [], harness := (true, "d1ca3d26d621f152c3245100f807af32622d04d8d329faae4663d065b698daac"), looks := false }, kinds := [], alts := [], laidByText := true, laidKinds := [.data, .pinned], laidTests := true, laidLooks := .later }
def FnMirrorsUptoCardSaid : Prop := Claim7.holds Tryd.pinned (.plain (OpenSpec.upto fnMirrorsSpec)) fnMirrorsUptoCard
end Rows
end Go.Proofs.YtjoomndcdpkplaaDoor
