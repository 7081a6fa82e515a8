/-
  DERIVED. GIVEN WITH THE SEED: THE CARDS: each row of YtpcpgoeahndlfaaDoorRows.lean that lists a variable, with what it lists TIED to the program's text (the seventh form; the later family's looks); each row that meets fmt, with fmt's text TOLD by the authors' own Lean function (tested against real Go, not proved from fmt's source: count such statements apart). THE CARD IS WHAT COUNTS. Prove the row's statement (the work); the ties are given (YtpcpgoeahndlfaaDoorTie.lean); close each card by the builder's one call (the guide's Derived/Test/ToyasCard.lean, 'card_holds'). Laid BY PROGRAM, IN A SANDBOX (cutbox-door.mjs). By AI agents, Wed Nov 11 2026. No macro, syntax, notation, axiom, sorry.
-/
import Derived.Test.YtpcpgoeahndlfaaDoorRows
import GoSem.ClaimSeven
namespace Go.Proofs.YtpcpgoeahndlfaaDoor
namespace Rows

/-- THE TIED CARD OF 'lapwinglaw04.CharsetPlain'. -/
def charsetPlainCard : Claim7 := { stood := { row := charsetPlainRow, standIns := [], harness := (true, "cfe841691152099fb18a1ec9943d799a64ee5dea40e684202bd0ad8f1d7440fb"), looks := false }, kinds := [], alts := [], laidByText := true, laidKinds := [.data], laidTests := true, laidLooks := .later }
def CharsetPlainCardSaid : Prop := Claim7.holds Tryd.pinned (.plain (OpenSpec.ofChange charsetPlainSpec)) charsetPlainCard

/-- THE TIED CARD OF 'lapwinglaw04.CharsetGraphics'. -/
def charsetGraphicsCard : Claim7 := { stood := { row := charsetGraphicsRow, standIns := [], harness := (true, "cfe841691152099fb18a1ec9943d799a64ee5dea40e684202bd0ad8f1d7440fb"), looks := false }, kinds := [], alts := [], laidByText := true, laidKinds := [.data], laidTests := true, laidLooks := .later }
def CharsetGraphicsCardSaid : Prop := Claim7.holds Tryd.pinned (.plain (OpenSpec.ofChange charsetGraphicsSpec)) charsetGraphicsCard

/-- THE TIED CARD OF 'lapwinglaw04.CharsetOnce'. -/
def charsetOnceCard : Claim7 := { stood := { row := charsetOnceRow, standIns := [], harness := (true, "cfe841691152099fb18a1ec9943d799a64ee5dea40e684202bd0ad8f1d7440fb"), looks := false }, kinds := [], alts := [], laidByText := true, laidKinds := [.data], laidTests := true, laidLooks := .later }
def CharsetOnceCardSaid : Prop := Claim7.holds Tryd.pinned (.plain (OpenSpec.ofChange charsetOnceSpec)) charsetOnceCard

/-- THE SECOND FORM's CARD OF 'lapwinglaw04.CharsetPlain'. -/
def charsetPlainUptoCard : Claim7 := { stood := { row := charsetPlainUptoRow, standIns := [], harness := (true, "cfe841691152099fb18a1ec9943d799a64ee5dea40e684202bd0ad8f1d7440fb"), looks := false }, kinds := [], alts := [], laidByText := true, laidKinds := [.data], laidTests := true, laidLooks := .later }
def CharsetPlainUptoCardSaid : Prop := Claim7.holds Tryd.pinned (.plain (OpenSpec.upto charsetPlainSpec)) charsetPlainUptoCard

/-- THE SECOND FORM's CARD OF 'lapwinglaw04.CharsetGraphics'. -/
def charsetGraphicsUptoCard : Claim7 := { stood := { row := charsetGraphicsUptoRow, standIns := [], harness := (true, "cfe841691152099fb18a1ec9943d799a64ee5dea40e684202bd0ad8f1d7440fb"), looks := false }, kinds := [], alts := [], laidByText := true, laidKinds := [.data], laidTests := true, laidLooks := .later }
def CharsetGraphicsUptoCardSaid : Prop := Claim7.holds Tryd.pinned (.plain (OpenSpec.upto charsetGraphicsSpec)) charsetGraphicsUptoCard

/-- THE SECOND FORM's CARD OF 'lapwinglaw04.CharsetOnce'. -/
def charsetOnceUptoCard : Claim7 := { stood := { row := charsetOnceUptoRow, standIns := [], harness := (true, "cfe841691152099fb18a1ec9943d799a64ee5dea40e684202bd0ad8f1d7440fb"), looks := false }, kinds := [], alts := [], laidByText := true, laidKinds := [.data], laidTests := true, laidLooks := .later }
def CharsetOnceUptoCardSaid : Prop := Claim7.holds Tryd.pinned (.plain (OpenSpec.upto charsetOnceSpec)) charsetOnceUptoCard
end Rows
end Go.Proofs.YtpcpgoeahndlfaaDoor
