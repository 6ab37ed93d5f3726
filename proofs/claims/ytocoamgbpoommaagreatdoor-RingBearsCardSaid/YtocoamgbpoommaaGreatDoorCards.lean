/-
  DERIVED. GIVEN WITH THE SEED: THE CARDS: each row of YtocoamgbpoommaaGreatDoorRows.lean that lists a variable, with what it lists TIED to the program's text (the seventh form; the later family's looks); each row that meets fmt, with fmt's text TOLD by the authors' own Lean function (tested against real Go, not proved from fmt's source: count such statements apart). THE CARD IS WHAT COUNTS. Prove the row's statement (the work); the ties are given (YtocoamgbpoommaaGreatDoorTie.lean); close each card by the builder's one call (the guide's Derived/Test/ToyasCard.lean, 'card_holds'). Laid BY PROGRAM, IN A SANDBOX (cutbox-door.mjs). By AI agents, Wed Nov 11 2026. No macro, syntax, notation, axiom, sorry.
-/
import Derived.Test.YtocoamgbpoommaaGreatDoorRows
import GoSem.ClaimSeven
namespace Go.Proofs.YtocoamgbpoommaaGreatDoor
namespace Rows

/-- THE TIED CARD OF 'narcissuslaw08.RingTogether'. -/
def ringTogetherCard : Claim7 := { stood := { row := ringTogetherRow, standIns := [], harness := (true, "56e6dce59951ad610bc485a9036236e81348a27c479e880ecb84c94f587949a9"), looks := true }, kinds := [], alts := [], laidByText := true, laidKinds := [.data, .data, .data, .data, .sentinel, .sentinel, .pinned], laidTests := true, laidLooks := .later }
def RingTogetherCardSaid : Prop := Claim7.holds Tryz.pinned (.plain (OpenSpec.ofChange ringTogetherSpec)) ringTogetherCard

/-- THE TIED CARD OF 'narcissuslaw08.RingRings'. -/
def ringRingsCard : Claim7 := { stood := { row := ringRingsRow, standIns := [], harness := (true, "56e6dce59951ad610bc485a9036236e81348a27c479e880ecb84c94f587949a9"), looks := true }, kinds := [], alts := [], laidByText := true, laidKinds := [.data, .data, .data, .data, .sentinel, .sentinel, .pinned], laidTests := true, laidLooks := .later }
def RingRingsCardSaid : Prop := Claim7.holds Tryz.pinned (.plain (OpenSpec.ofChange ringRingsSpec)) ringRingsCard

/-- THE TIED CARD OF 'narcissuslaw08.RingKnows'. -/
def ringKnowsCard : Claim7 := { stood := { row := ringKnowsRow, standIns := [], harness := (true, "56e6dce59951ad610bc485a9036236e81348a27c479e880ecb84c94f587949a9"), looks := true }, kinds := [], alts := [], laidByText := true, laidKinds := [.data, .data, .data, .data, .sentinel, .sentinel, .pinned], laidTests := true, laidLooks := .later }
def RingKnowsCardSaid : Prop := Claim7.holds Tryz.pinned (.plain (OpenSpec.ofChange ringKnowsSpec)) ringKnowsCard

/-- THE TIED CARD OF 'narcissuslaw08.RingNext'. -/
def ringNextCard : Claim7 := { stood := { row := ringNextRow, standIns := [], harness := (true, "56e6dce59951ad610bc485a9036236e81348a27c479e880ecb84c94f587949a9"), looks := true }, kinds := [], alts := [], laidByText := true, laidKinds := [.data, .data, .data, .data, .sentinel, .sentinel, .pinned], laidTests := true, laidLooks := .later }
def RingNextCardSaid : Prop := Claim7.holds Tryz.pinned (.plain (OpenSpec.ofChange ringNextSpec)) ringNextCard

/-- THE TIED CARD OF 'narcissuslaw08.RingDifferent'. -/
def ringDifferentCard : Claim7 := { stood := { row := ringDifferentRow, standIns := [], harness := (true, "56e6dce59951ad610bc485a9036236e81348a27c479e880ecb84c94f587949a9"), looks := true }, kinds := [], alts := [], laidByText := true, laidKinds := [.data, .data, .data, .data, .sentinel, .sentinel, .pinned], laidTests := true, laidLooks := .later }
def RingDifferentCardSaid : Prop := Claim7.holds Tryz.pinned (.plain (OpenSpec.ofChange ringDifferentSpec)) ringDifferentCard

/-- THE TIED CARD OF 'narcissuslaw08.RingBearers'. -/
def ringBearersCard : Claim7 := { stood := { row := ringBearersRow, standIns := [], harness := (true, "56e6dce59951ad610bc485a9036236e81348a27c479e880ecb84c94f587949a9"), looks := true }, kinds := [], alts := [], laidByText := true, laidKinds := [.data, .data, .data, .data, .sentinel, .sentinel, .pinned], laidTests := true, laidLooks := .later }
def RingBearersCardSaid : Prop := Claim7.holds Tryz.pinned (.plain (OpenSpec.ofChange ringBearersSpec)) ringBearersCard

/-- THE TIED CARD OF 'narcissuslaw08.RingBears'. -/
def ringBearsCard : Claim7 := { stood := { row := ringBearsRow, standIns := [], harness := (true, "56e6dce59951ad610bc485a9036236e81348a27c479e880ecb84c94f587949a9"), looks := true }, kinds := [], alts := [], laidByText := true, laidKinds := [.data, .data, .data, .data, .sentinel, .sentinel, .pinned], laidTests := true, laidLooks := .later }
def RingBearsCardSaid : Prop := Claim7.holds Tryz.pinned (.plain (OpenSpec.ofChange ringBearsSpec)) ringBearsCard

/-- THE SECOND FORM's CARD OF 'narcissuslaw08.RingTogether'. -/
def ringTogetherUptoCard : Claim7 := { stood := { row := ringTogetherUptoRow, standIns := [], harness := (true, "56e6dce59951ad610bc485a9036236e81348a27c479e880ecb84c94f587949a9"), looks := true }, kinds := [], alts := [], laidByText := true, laidKinds := [.data, .data, .data, .data, .sentinel, .sentinel, .pinned], laidTests := true, laidLooks := .later }
def RingTogetherUptoCardSaid : Prop := Claim7.holds Tryz.pinned (.plain (OpenSpec.upto ringTogetherSpec)) ringTogetherUptoCard

/-- THE SECOND FORM's CARD OF 'narcissuslaw08.RingRings'. -/
def ringRingsUptoCard : Claim7 := { stood := { row := ringRingsUptoRow, standIns := [], harness := (true, "56e6dce59951ad610bc485a9036236e81348a27c479e880ecb84c94f587949a9"), looks := true }, kinds := [], alts := [], laidByText := true, laidKinds := [.data, .data, .data, .data, .sentinel, .sentinel, .pinned], laidTests := true, laidLooks := .later }
def RingRingsUptoCardSaid : Prop := Claim7.holds Tryz.pinned (.plain (OpenSpec.upto ringRingsSpec)) ringRingsUptoCard

/-- THE SECOND FORM's CARD OF 'narcissuslaw08.RingKnows'. -/
def ringKnowsUptoCard : Claim7 := { stood := { row := ringKnowsUptoRow, standIns := [], harness := (true, "56e6dce59951ad610bc485a9036236e81348a27c479e880ecb84c94f587949a9"), looks := true }, kinds := [], alts := [], laidByText := true, laidKinds := [.data, .data, .data, .data, .sentinel, .sentinel, .pinned], laidTests := true, laidLooks := .later }
def RingKnowsUptoCardSaid : Prop := Claim7.holds Tryz.pinned (.plain (OpenSpec.upto ringKnowsSpec)) ringKnowsUptoCard

/-- THE SECOND FORM's CARD OF 'narcissuslaw08.RingNext'. -/
def ringNextUptoCard : Claim7 := { stood := { row := ringNextUptoRow, standIns := [], harness := (true, "56e6dce59951ad610bc485a9036236e81348a27c479e880ecb84c94f587949a9"), looks := true }, kinds := [], alts := [], laidByText := true, laidKinds := [.data, .data, .data, .data, .sentinel, .sentinel, .pinned], laidTests := true, laidLooks := .later }
def RingNextUptoCardSaid : Prop := Claim7.holds Tryz.pinned (.plain (OpenSpec.upto ringNextSpec)) ringNextUptoCard

/-- THE SECOND FORM's CARD OF 'narcissuslaw08.RingDifferent'. -/
def ringDifferentUptoCard : Claim7 := { stood := { row := ringDifferentUptoRow, standIns := [], harness := (true, "56e6dce59951ad610bc485a9036236e81348a27c479e880ecb84c94f587949a9"), looks := true }, kinds := [], alts := [], laidByText := true, laidKinds := [.data, .data, .data, .data, .sentinel, .sentinel, .pinned], laidTests := true, laidLooks := .later }
def RingDifferentUptoCardSaid : Prop := Claim7.holds Tryz.pinned (.plain (OpenSpec.upto ringDifferentSpec)) ringDifferentUptoCard

/-- THE SECOND FORM's CARD OF 'narcissuslaw08.RingBearers'. -/
def ringBearersUptoCard : Claim7 := { stood := { row := ringBearersUptoRow, standIns := [], harness := (true, "56e6dce59951ad610bc485a9036236e81348a27c479e880ecb84c94f587949a9"), looks := true }, kinds := [], alts := [], laidByText := true, laidKinds := [.data, .data, .data, .data, .sentinel, .sentinel, .pinned], laidTests := true, laidLooks := .later }
def RingBearersUptoCardSaid : Prop := Claim7.holds Tryz.pinned (.plain (OpenSpec.upto ringBearersSpec)) ringBearersUptoCard

/-- THE SECOND FORM's CARD OF 'narcissuslaw08.RingBears'. -/
def ringBearsUptoCard : Claim7 := { stood := { row := ringBearsUptoRow, standIns := [], harness := (true, "56e6dce59951ad610bc485a9036236e81348a27c479e880ecb84c94f587949a9"), looks := true }, kinds := [], alts := [], laidByText := true, laidKinds := [.data, .data, .data, .data, .sentinel, .sentinel, .pinned], laidTests := true, laidLooks := .later }
def RingBearsUptoCardSaid : Prop := Claim7.holds Tryz.pinned (.plain (OpenSpec.upto ringBearsSpec)) ringBearsUptoCard
end Rows
end Go.Proofs.YtocoamgbpoommaaGreatDoor
