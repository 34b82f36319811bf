/-
  DERIVED. GIVEN WITH THE SEED: THE CARDS: each row of YtgcncphdjabjjaaDoorRows.lean that lists a variable, with what it lists TIED to the program's text (the seventh form; the later family's looks); each row that meets fmt, with fmt's text TOLD by the authors' own Lean function (tested against real Go, not proved from fmt's source: count such statements apart). THE CARD IS WHAT COUNTS. Prove the row's statement (the work); the ties are given (YtgcncphdjabjjaaDoorTie.lean); close each card by the builder's one call (the guide's Derived/Test/ToyasCard.lean, 'card_holds'). Laid BY PROGRAM, IN A SANDBOX (cutbox-door.mjs). By AI agents, Wed Nov 11 2026. No macro, syntax, notation, axiom, sorry.
-/
import Derived.Test.YtgcncphdjabjjaaDoorRows
import GoSem.ClaimSeven
namespace Go.Proofs.YtgcncphdjabjjaaDoor
namespace Rows

/-- THE TIED CARD OF 'laws.FnExactMessageText'. -/
def fnExactMessageTextCard : Claim7 := { stood := { row := fnExactMessageTextRow, standIns := [], harness := (true, "90b142e5987c0f3ff987836c2215b6e379401ddc8844b7bdbf6a1e97051d8cce"), looks := false }, kinds := [], alts := [], laidByText := true, laidKinds := [.data, .pinned], laidTests := true, laidLooks := .later }
def FnExactMessageTextCardSaid : Prop := Claim7.holds Tryd.pinned (.plain (OpenSpec.ofChange fnExactMessageTextSpec)) fnExactMessageTextCard

/-- THE SECOND FORM's CARD OF 'laws.FnExactMessageText'. -/
def fnExactMessageTextUptoCard : Claim7 := { stood := { row := fnExactMessageTextUptoRow, standIns := [], harness := (true, "90b142e5987c0f3ff987836c2215b6e379401ddc8844b7bdbf6a1e97051d8cce"), looks := false }, kinds := [], alts := [], laidByText := true, laidKinds := [.data, .pinned], laidTests := true, laidLooks := .later }
def FnExactMessageTextUptoCardSaid : Prop := Claim7.holds Tryd.pinned (.plain (OpenSpec.upto fnExactMessageTextSpec)) fnExactMessageTextUptoCard
end Rows
end Go.Proofs.YtgcncphdjabjjaaDoor
