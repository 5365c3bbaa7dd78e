/-
  DERIVED. GIVEN WITH THE SEED: THE CARDS: each row of YtkhkaofpmcnllaaDoorRows.lean that lists a variable, with what it lists TIED to the program's text (the seventh form; the later family's looks); each row that meets fmt, with fmt's text TOLD by the authors' own Lean function (tested against real Go, not proved from fmt's source: count such statements apart). THE CARD IS WHAT COUNTS. Prove the row's statement (the work); the ties are given (YtkhkaofpmcnllaaDoorTie.lean); close each card by the builder's one call (the guide's Derived/Test/ToyasCard.lean, 'card_holds'). Laid BY PROGRAM, IN A SANDBOX (cutbox-door.mjs). By AI agents, Wed Nov 11 2026. No macro, syntax, notation, axiom, sorry.
-/
import Derived.Test.YtkhkaofpmcnllaaDoorRows
import GoSem.ClaimSeven
namespace Go.Proofs.YtkhkaofpmcnllaaDoor
namespace Rows

/-- THE TIED CARD OF 'semaphorelaw07.BitsOne'. -/
def bitsOneCard : Claim7 := { stood := { row := bitsOneRow, standIns := [], harness := (true, "1cf1e93d5913ada1dee2284150fd7ffbd7144c851323fd705f57e6a85a64ee36"), looks := false }, kinds := [], alts := [], laidByText := true, laidKinds := [.data], laidTests := true, laidLooks := .later }
def BitsOneCardSaid : Prop := Claim7.holds Tryd.pinned (.plain (OpenSpec.ofChange bitsOneSpec)) bitsOneCard

/-- THE TIED CARD OF 'semaphorelaw07.BitsOf'. -/
def bitsOfCard : Claim7 := { stood := { row := bitsOfRow, standIns := [], harness := (true, "1cf1e93d5913ada1dee2284150fd7ffbd7144c851323fd705f57e6a85a64ee36"), looks := false }, kinds := [], alts := [], laidByText := true, laidKinds := [.data], laidTests := true, laidLooks := .later }
def BitsOfCardSaid : Prop := Claim7.holds Tryd.pinned (.plain (OpenSpec.ofChange bitsOfSpec)) bitsOfCard

/-- THE TIED CARD OF 'semaphorelaw07.BitsList'. -/
def bitsListCard : Claim7 := { stood := { row := bitsListRow, standIns := [], harness := (true, "1cf1e93d5913ada1dee2284150fd7ffbd7144c851323fd705f57e6a85a64ee36"), looks := false }, kinds := [], alts := [], laidByText := true, laidKinds := [.data], laidTests := true, laidLooks := .later }
def BitsListCardSaid : Prop := Claim7.holds Tryd.pinned (.plain (OpenSpec.ofChange bitsListSpec)) bitsListCard

/-- THE TIED CARD OF 'semaphorelaw07.BitsFirst'. -/
def bitsFirstCard : Claim7 := { stood := { row := bitsFirstRow, standIns := [], harness := (true, "1cf1e93d5913ada1dee2284150fd7ffbd7144c851323fd705f57e6a85a64ee36"), looks := false }, kinds := [], alts := [], laidByText := true, laidKinds := [.data], laidTests := true, laidLooks := .later }
def BitsFirstCardSaid : Prop := Claim7.holds Tryd.pinned (.plain (OpenSpec.ofChange bitsFirstSpec)) bitsFirstCard

/-- THE TIED CARD OF 'semaphorelaw07.BitsAny'. -/
def bitsAnyCard : Claim7 := { stood := { row := bitsAnyRow, standIns := [], harness := (true, "1cf1e93d5913ada1dee2284150fd7ffbd7144c851323fd705f57e6a85a64ee36"), looks := false }, kinds := [], alts := [], laidByText := true, laidKinds := [.data], laidTests := true, laidLooks := .later }
def BitsAnyCardSaid : Prop := Claim7.holds Tryd.pinned (.plain (OpenSpec.ofChange bitsAnySpec)) bitsAnyCard

/-- THE TIED CARD OF 'semaphorelaw07.BitsBack'. -/
def bitsBackCard : Claim7 := { stood := { row := bitsBackRow, standIns := [], harness := (true, "1cf1e93d5913ada1dee2284150fd7ffbd7144c851323fd705f57e6a85a64ee36"), looks := false }, kinds := [], alts := [], laidByText := true, laidKinds := [.data], laidTests := true, laidLooks := .later }
def BitsBackCardSaid : Prop := Claim7.holds Tryd.pinned (.plain (OpenSpec.ofChange bitsBackSpec)) bitsBackCard

/-- THE TIED CARD OF 'semaphorelaw07.BitsKnown'. -/
def bitsKnownCard : Claim7 := { stood := { row := bitsKnownRow, standIns := [], harness := (true, "1cf1e93d5913ada1dee2284150fd7ffbd7144c851323fd705f57e6a85a64ee36"), looks := false }, kinds := [], alts := [], laidByText := true, laidKinds := [.data], laidTests := true, laidLooks := .later }
def BitsKnownCardSaid : Prop := Claim7.holds Tryd.pinned (.plain (OpenSpec.ofChange bitsKnownSpec)) bitsKnownCard

/-- THE SECOND FORM's CARD OF 'semaphorelaw07.BitsOne'. -/
def bitsOneUptoCard : Claim7 := { stood := { row := bitsOneUptoRow, standIns := [], harness := (true, "1cf1e93d5913ada1dee2284150fd7ffbd7144c851323fd705f57e6a85a64ee36"), looks := false }, kinds := [], alts := [], laidByText := true, laidKinds := [.data], laidTests := true, laidLooks := .later }
def BitsOneUptoCardSaid : Prop := Claim7.holds Tryd.pinned (.plain (OpenSpec.upto bitsOneSpec)) bitsOneUptoCard

/-- THE SECOND FORM's CARD OF 'semaphorelaw07.BitsOf'. -/
def bitsOfUptoCard : Claim7 := { stood := { row := bitsOfUptoRow, standIns := [], harness := (true, "1cf1e93d5913ada1dee2284150fd7ffbd7144c851323fd705f57e6a85a64ee36"), looks := false }, kinds := [], alts := [], laidByText := true, laidKinds := [.data], laidTests := true, laidLooks := .later }
def BitsOfUptoCardSaid : Prop := Claim7.holds Tryd.pinned (.plain (OpenSpec.upto bitsOfSpec)) bitsOfUptoCard

/-- THE SECOND FORM's CARD OF 'semaphorelaw07.BitsList'. -/
def bitsListUptoCard : Claim7 := { stood := { row := bitsListUptoRow, standIns := [], harness := (true, "1cf1e93d5913ada1dee2284150fd7ffbd7144c851323fd705f57e6a85a64ee36"), looks := false }, kinds := [], alts := [], laidByText := true, laidKinds := [.data], laidTests := true, laidLooks := .later }
def BitsListUptoCardSaid : Prop := Claim7.holds Tryd.pinned (.plain (OpenSpec.upto bitsListSpec)) bitsListUptoCard

/-- THE SECOND FORM's CARD OF 'semaphorelaw07.BitsFirst'. -/
def bitsFirstUptoCard : Claim7 := { stood := { row := bitsFirstUptoRow, standIns := [], harness := (true, "1cf1e93d5913ada1dee2284150fd7ffbd7144c851323fd705f57e6a85a64ee36"), looks := false }, kinds := [], alts := [], laidByText := true, laidKinds := [.data], laidTests := true, laidLooks := .later }
def BitsFirstUptoCardSaid : Prop := Claim7.holds Tryd.pinned (.plain (OpenSpec.upto bitsFirstSpec)) bitsFirstUptoCard

/-- THE SECOND FORM's CARD OF 'semaphorelaw07.BitsAny'. -/
def bitsAnyUptoCard : Claim7 := { stood := { row := bitsAnyUptoRow, standIns := [], harness := (true, "1cf1e93d5913ada1dee2284150fd7ffbd7144c851323fd705f57e6a85a64ee36"), looks := false }, kinds := [], alts := [], laidByText := true, laidKinds := [.data], laidTests := true, laidLooks := .later }
def BitsAnyUptoCardSaid : Prop := Claim7.holds Tryd.pinned (.plain (OpenSpec.upto bitsAnySpec)) bitsAnyUptoCard

/-- THE SECOND FORM's CARD OF 'semaphorelaw07.BitsBack'. -/
def bitsBackUptoCard : Claim7 := { stood := { row := bitsBackUptoRow, standIns := [], harness := (true, "1cf1e93d5913ada1dee2284150fd7ffbd7144c851323fd705f57e6a85a64ee36"), looks := false }, kinds := [], alts := [], laidByText := true, laidKinds := [.data], laidTests := true, laidLooks := .later }
def BitsBackUptoCardSaid : Prop := Claim7.holds Tryd.pinned (.plain (OpenSpec.upto bitsBackSpec)) bitsBackUptoCard

/-- THE SECOND FORM's CARD OF 'semaphorelaw07.BitsKnown'. -/
def bitsKnownUptoCard : Claim7 := { stood := { row := bitsKnownUptoRow, standIns := [], harness := (true, "1cf1e93d5913ada1dee2284150fd7ffbd7144c851323fd705f57e6a85a64ee36"), looks := false }, kinds := [], alts := [], laidByText := true, laidKinds := [.data], laidTests := true, laidLooks := .later }
def BitsKnownUptoCardSaid : Prop := Claim7.holds Tryd.pinned (.plain (OpenSpec.upto bitsKnownSpec)) bitsKnownUptoCard
end Rows
end Go.Proofs.YtkhkaofpmcnllaaDoor
