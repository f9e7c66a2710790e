/-
  DERIVED. GIVEN WITH THE SEED: THE CARDS: each row of YtckikiaockkmbaaDoorRows.lean that lists a variable, with what it lists TIED to the program's text (the seventh form; the later family's looks); each row that meets fmt, with fmt's text TOLD by the authors' own Lean function (tested against real Go, not proved from fmt's source: count such statements apart). THE CARD IS WHAT COUNTS. Prove the row's statement (the work); the ties are given (YtckikiaockkmbaaDoorTie.lean); close each card by the builder's one call (the guide's Derived/Test/ToyasCard.lean, 'card_holds'). Laid BY PROGRAM, IN A SANDBOX (cutbox-door.mjs). By AI agents, Wed Nov 11 2026. No macro, syntax, notation, axiom, sorry.
-/
import Derived.Test.YtckikiaockkmbaaDoorRows
import GoSem.ClaimSeven
namespace Go.Proofs.YtckikiaockkmbaaDoor
namespace Rows

/-- THE TIED CARD OF 'laws.FnExactFormatTrace'. -/
def fnExactFormatTraceCard : Claim7 := { stood := { row := fnExactFormatTraceRow, standIns := [], harness := (true, "3a7c8a62cd04bedb32d965c36c043f7e9c57f1c1b5df9e7faec09fe3c420c45e"), looks := false }, kinds := [], alts := [], laidByText := true, laidKinds := [.data, .data, .data], laidTests := true, laidLooks := .later }
def FnExactFormatTraceCardSaid : Prop := Claim7.holds Tryd.pinned (.plain (OpenSpec.ofChange fnExactFormatTraceSpec)) fnExactFormatTraceCard

/-- THE TIED CARD OF 'laws.FnExactFormatExpr'. -/
def fnExactFormatExprCard : Claim7 := { stood := { row := fnExactFormatExprRow, standIns := [], harness := (true, "3a7c8a62cd04bedb32d965c36c043f7e9c57f1c1b5df9e7faec09fe3c420c45e"), looks := false }, kinds := [], alts := [], laidByText := true, laidKinds := [.data, .data, .data], laidTests := true, laidLooks := .later }
def FnExactFormatExprCardSaid : Prop := Claim7.holds Tryd.pinned (.plain (OpenSpec.ofChange fnExactFormatExprSpec)) fnExactFormatExprCard

/-- THE TIED CARD OF 'laws.FnFormatTrace'. -/
def fnFormatTraceCard : Claim7 := { stood := { row := fnFormatTraceRow, standIns := [], harness := (true, "3a7c8a62cd04bedb32d965c36c043f7e9c57f1c1b5df9e7faec09fe3c420c45e"), looks := false }, kinds := [], alts := [], laidByText := true, laidKinds := [.data, .data, .data], laidTests := true, laidLooks := .later }
def FnFormatTraceCardSaid : Prop := Claim7.holds Tryd.pinned (.plain (OpenSpec.ofChange fnFormatTraceSpec)) fnFormatTraceCard

/-- THE SECOND FORM's CARD OF 'laws.FnExactFormatTrace'. -/
def fnExactFormatTraceUptoCard : Claim7 := { stood := { row := fnExactFormatTraceUptoRow, standIns := [], harness := (true, "3a7c8a62cd04bedb32d965c36c043f7e9c57f1c1b5df9e7faec09fe3c420c45e"), looks := false }, kinds := [], alts := [], laidByText := true, laidKinds := [.data, .data, .data], laidTests := true, laidLooks := .later }
def FnExactFormatTraceUptoCardSaid : Prop := Claim7.holds Tryd.pinned (.plain (OpenSpec.upto fnExactFormatTraceSpec)) fnExactFormatTraceUptoCard

/-- THE SECOND FORM's CARD OF 'laws.FnExactFormatExpr'. -/
def fnExactFormatExprUptoCard : Claim7 := { stood := { row := fnExactFormatExprUptoRow, standIns := [], harness := (true, "3a7c8a62cd04bedb32d965c36c043f7e9c57f1c1b5df9e7faec09fe3c420c45e"), looks := false }, kinds := [], alts := [], laidByText := true, laidKinds := [.data, .data, .data], laidTests := true, laidLooks := .later }
def FnExactFormatExprUptoCardSaid : Prop := Claim7.holds Tryd.pinned (.plain (OpenSpec.upto fnExactFormatExprSpec)) fnExactFormatExprUptoCard

/-- THE SECOND FORM's CARD OF 'laws.FnFormatTrace'. -/
def fnFormatTraceUptoCard : Claim7 := { stood := { row := fnFormatTraceUptoRow, standIns := [], harness := (true, "3a7c8a62cd04bedb32d965c36c043f7e9c57f1c1b5df9e7faec09fe3c420c45e"), looks := false }, kinds := [], alts := [], laidByText := true, laidKinds := [.data, .data, .data], laidTests := true, laidLooks := .later }
def FnFormatTraceUptoCardSaid : Prop := Claim7.holds Tryd.pinned (.plain (OpenSpec.upto fnFormatTraceSpec)) fnFormatTraceUptoCard
end Rows
end Go.Proofs.YtckikiaockkmbaaDoor
