/-
  DERIVED. GIVEN WITH THE SEED: THE CARDS: each row of YtfckjfoalpkpjaaDoorRows.lean that lists a variable, with what it lists TIED to the program's text (the seventh form; the later family's looks); each row that meets fmt, with fmt's text TOLD by the authors' own Lean function (tested against real Go, not proved from fmt's source: count such statements apart). THE CARD IS WHAT COUNTS. Prove the row's statement (the work); the ties are given (YtfckjfoalpkpjaaDoorTie.lean); close each card by the builder's one call (the guide's Derived/Test/ToyasCard.lean, 'card_holds'). Laid BY PROGRAM, IN A SANDBOX (cutbox-door.mjs). By AI agents, Wed Nov 11 2026. No macro, syntax, notation, axiom, sorry.
-/
import Derived.Test.YtfckjfoalpkpjaaDoorRows
import GoSem.ClaimSeven
namespace Go.Proofs.YtfckjfoalpkpjaaDoor
namespace Rows

/-- THE TIED CARD OF 'narcissuslaw02.CodeAccepts'. -/
def codeAcceptsCard : Claim7 := { stood := { row := codeAcceptsRow, standIns := [], harness := (true, "3543a2d08cb34890679c0dc40eef9cd4f54318c6611dd4d74cd8351123705c1e"), looks := true }, kinds := [], alts := [], laidByText := true, laidKinds := [.data, .data, .data, .data, .sentinel, .sentinel, .pinned], laidTests := true, laidLooks := .later }
def CodeAcceptsCardSaid : Prop := Claim7.holds Tryd.pinned (.plain (OpenSpec.ofChange codeAcceptsSpec)) codeAcceptsCard

/-- THE SECOND FORM's CARD OF 'narcissuslaw02.CodeAccepts'. -/
def codeAcceptsUptoCard : Claim7 := { stood := { row := codeAcceptsUptoRow, standIns := [], harness := (true, "3543a2d08cb34890679c0dc40eef9cd4f54318c6611dd4d74cd8351123705c1e"), looks := true }, kinds := [], alts := [], laidByText := true, laidKinds := [.data, .data, .data, .data, .sentinel, .sentinel, .pinned], laidTests := true, laidLooks := .later }
def CodeAcceptsUptoCardSaid : Prop := Claim7.holds Tryd.pinned (.plain (OpenSpec.upto codeAcceptsSpec)) codeAcceptsUptoCard
end Rows
end Go.Proofs.YtfckjfoalpkpjaaDoor
