/-
  DERIVED. GIVEN WITH THE SEED: THE CARDS: each row of YtndophlnapjkhaaGreatDoorRows.lean that lists a variable, with what it lists TIED to the program's text (the seventh form; the later family's looks); each row that meets fmt, with fmt's text TOLD by the authors' own Lean function (tested against real Go, not proved from fmt's source: count such statements apart). THE CARD IS WHAT COUNTS. Prove the row's statement (the work); the ties are given (YtndophlnapjkhaaGreatDoorTie.lean); close each card by the builder's one call (the guide's Derived/Test/ToyasCard.lean, 'card_holds'). Laid BY PROGRAM, IN A SANDBOX (cutbox-door.mjs). By AI agents, Wed Nov 11 2026. No macro, syntax, notation, axiom, sorry.
-/
import Derived.Test.YtndophlnapjkhaaGreatDoorRows
import GoSem.ClaimSeven
namespace Go.Proofs.YtndophlnapjkhaaGreatDoor
namespace Rows

/-- THE TIED CARD OF 'armillarylaw12.FactFinds'. -/
def factFindsCard : Claim7 := { stood := { row := factFindsRow, standIns := [], harness := (true, "165dcb3cb9f6b7d85189f64344ebfef36a12f70fa8140cc657c9cc9a0360fcbc"), looks := false }, kinds := [], alts := [], laidByText := true, laidKinds := [.data], laidTests := true, laidLooks := .later }
def FactFindsCardSaid : Prop := Claim7.holds Tryz.pinned (.plain (OpenSpec.ofChange factFindsSpec)) factFindsCard

/-- THE TIED CARD OF 'armillarylaw12.FactLooks'. -/
def factLooksCard : Claim7 := { stood := { row := factLooksRow, standIns := [], harness := (true, "165dcb3cb9f6b7d85189f64344ebfef36a12f70fa8140cc657c9cc9a0360fcbc"), looks := false }, kinds := [], alts := [], laidByText := true, laidKinds := [.data], laidTests := true, laidLooks := .later }
def FactLooksCardSaid : Prop := Claim7.holds Tryz.pinned (.plain (OpenSpec.ofChange factLooksSpec)) factLooksCard

/-- THE TIED CARD OF 'armillarylaw12.FactKnown'. -/
def factKnownCard : Claim7 := { stood := { row := factKnownRow, standIns := [], harness := (true, "165dcb3cb9f6b7d85189f64344ebfef36a12f70fa8140cc657c9cc9a0360fcbc"), looks := false }, kinds := [], alts := [], laidByText := true, laidKinds := [.data], laidTests := true, laidLooks := .later }
def FactKnownCardSaid : Prop := Claim7.holds Tryz.pinned (.plain (OpenSpec.ofChange factKnownSpec)) factKnownCard

/-- THE SECOND FORM's CARD OF 'armillarylaw12.FactFinds'. -/
def factFindsUptoCard : Claim7 := { stood := { row := factFindsUptoRow, standIns := [], harness := (true, "165dcb3cb9f6b7d85189f64344ebfef36a12f70fa8140cc657c9cc9a0360fcbc"), looks := false }, kinds := [], alts := [], laidByText := true, laidKinds := [.data], laidTests := true, laidLooks := .later }
def FactFindsUptoCardSaid : Prop := Claim7.holds Tryz.pinned (.plain (OpenSpec.upto factFindsSpec)) factFindsUptoCard

/-- THE SECOND FORM's CARD OF 'armillarylaw12.FactLooks'. -/
def factLooksUptoCard : Claim7 := { stood := { row := factLooksUptoRow, standIns := [], harness := (true, "165dcb3cb9f6b7d85189f64344ebfef36a12f70fa8140cc657c9cc9a0360fcbc"), looks := false }, kinds := [], alts := [], laidByText := true, laidKinds := [.data], laidTests := true, laidLooks := .later }
def FactLooksUptoCardSaid : Prop := Claim7.holds Tryz.pinned (.plain (OpenSpec.upto factLooksSpec)) factLooksUptoCard

/-- THE SECOND FORM's CARD OF 'armillarylaw12.FactKnown'. -/
def factKnownUptoCard : Claim7 := { stood := { row := factKnownUptoRow, standIns := [], harness := (true, "165dcb3cb9f6b7d85189f64344ebfef36a12f70fa8140cc657c9cc9a0360fcbc"), looks := false }, kinds := [], alts := [], laidByText := true, laidKinds := [.data], laidTests := true, laidLooks := .later }
def FactKnownUptoCardSaid : Prop := Claim7.holds Tryz.pinned (.plain (OpenSpec.upto factKnownSpec)) factKnownUptoCard
end Rows
end Go.Proofs.YtndophlnapjkhaaGreatDoor
