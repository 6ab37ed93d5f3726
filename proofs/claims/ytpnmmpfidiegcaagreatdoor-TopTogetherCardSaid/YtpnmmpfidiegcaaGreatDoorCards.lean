/-
  DERIVED. GIVEN WITH THE SEED: THE CARDS: each row of YtpnmmpfidiegcaaGreatDoorRows.lean that lists a variable, with what it lists TIED to the program's text (the seventh form; the later family's looks); each row that meets fmt, with fmt's text TOLD by the authors' own Lean function (tested against real Go, not proved from fmt's source: count such statements apart). THE CARD IS WHAT COUNTS. Prove the row's statement (the work); the ties are given (YtpnmmpfidiegcaaGreatDoorTie.lean); close each card by the builder's one call (the guide's Derived/Test/ToyasCard.lean, 'card_holds'). Laid BY PROGRAM, IN A SANDBOX (cutbox-door.mjs). By AI agents, Wed Nov 11 2026. No macro, syntax, notation, axiom, sorry.
-/
import Derived.Test.YtpnmmpfidiegcaaGreatDoorRows
import GoSem.ClaimSeven
namespace Go.Proofs.YtpnmmpfidiegcaaGreatDoor
namespace Rows

/-- THE TIED CARD OF 'narcissustop.TopTogether'. -/
def topTogetherCard : Claim7 := { stood := { row := topTogetherRow, standIns := [], harness := (true, "0a3bb5628a9c3a887ff663acc4fc414cc962e724ec43d8d31ba4b4c7c6c578d8"), looks := true }, kinds := [], alts := [], laidByText := true, laidKinds := [.data, .data, .data, .data, .sentinel, .sentinel, .pinned], laidTests := true, laidLooks := .later }
def TopTogetherCardSaid : Prop := Claim7.holds Tryz.pinned (.plain (OpenSpec.ofChange topTogetherSpec)) topTogetherCard

/-- THE TIED CARD OF 'narcissustop.TopRings'. -/
def topRingsCard : Claim7 := { stood := { row := topRingsRow, standIns := [], harness := (true, "0a3bb5628a9c3a887ff663acc4fc414cc962e724ec43d8d31ba4b4c7c6c578d8"), looks := true }, kinds := [], alts := [], laidByText := true, laidKinds := [.data, .data, .data, .data, .sentinel, .sentinel, .pinned], laidTests := true, laidLooks := .later }
def TopRingsCardSaid : Prop := Claim7.holds Tryz.pinned (.plain (OpenSpec.ofChange topRingsSpec)) topRingsCard

/-- THE TIED CARD OF 'narcissustop.TopBearer'. -/
def topBearerCard : Claim7 := { stood := { row := topBearerRow, standIns := [], harness := (true, "0a3bb5628a9c3a887ff663acc4fc414cc962e724ec43d8d31ba4b4c7c6c578d8"), looks := true }, kinds := [], alts := [], laidByText := true, laidKinds := [.data, .data, .data, .data, .sentinel, .sentinel, .pinned], laidTests := true, laidLooks := .later }
def TopBearerCardSaid : Prop := Claim7.holds Tryz.pinned (.plain (OpenSpec.ofChange topBearerSpec)) topBearerCard

/-- THE SECOND FORM's CARD OF 'narcissustop.TopTogether'. -/
def topTogetherUptoCard : Claim7 := { stood := { row := topTogetherUptoRow, standIns := [], harness := (true, "0a3bb5628a9c3a887ff663acc4fc414cc962e724ec43d8d31ba4b4c7c6c578d8"), looks := true }, kinds := [], alts := [], laidByText := true, laidKinds := [.data, .data, .data, .data, .sentinel, .sentinel, .pinned], laidTests := true, laidLooks := .later }
def TopTogetherUptoCardSaid : Prop := Claim7.holds Tryz.pinned (.plain (OpenSpec.upto topTogetherSpec)) topTogetherUptoCard

/-- THE SECOND FORM's CARD OF 'narcissustop.TopRings'. -/
def topRingsUptoCard : Claim7 := { stood := { row := topRingsUptoRow, standIns := [], harness := (true, "0a3bb5628a9c3a887ff663acc4fc414cc962e724ec43d8d31ba4b4c7c6c578d8"), looks := true }, kinds := [], alts := [], laidByText := true, laidKinds := [.data, .data, .data, .data, .sentinel, .sentinel, .pinned], laidTests := true, laidLooks := .later }
def TopRingsUptoCardSaid : Prop := Claim7.holds Tryz.pinned (.plain (OpenSpec.upto topRingsSpec)) topRingsUptoCard

/-- THE SECOND FORM's CARD OF 'narcissustop.TopBearer'. -/
def topBearerUptoCard : Claim7 := { stood := { row := topBearerUptoRow, standIns := [], harness := (true, "0a3bb5628a9c3a887ff663acc4fc414cc962e724ec43d8d31ba4b4c7c6c578d8"), looks := true }, kinds := [], alts := [], laidByText := true, laidKinds := [.data, .data, .data, .data, .sentinel, .sentinel, .pinned], laidTests := true, laidLooks := .later }
def TopBearerUptoCardSaid : Prop := Claim7.holds Tryz.pinned (.plain (OpenSpec.upto topBearerSpec)) topBearerUptoCard
end Rows
end Go.Proofs.YtpnmmpfidiegcaaGreatDoor
