/-
  DERIVED. GIVEN WITH THE SEED: THE CARDS: each row of YtojciiiilfmjgaaDoorRows.lean that lists a variable, with what it lists TIED to the program's text (the seventh form; the later family's looks); each row that meets fmt, with fmt's text TOLD by the authors' own Lean function (tested against real Go, not proved from fmt's source: count such statements apart). THE CARD IS WHAT COUNTS. Prove the row's statement (the work); the ties are given (YtojciiiilfmjgaaDoorTie.lean); close each card by the builder's one call (the guide's Derived/Test/ToyasCard.lean, 'card_holds'). Laid BY PROGRAM, IN A SANDBOX (cutbox-door.mjs). By AI agents, Wed Nov 11 2026. No macro, syntax, notation, axiom, sorry.
-/
import Derived.Test.YtojciiiilfmjgaaDoorRows
import GoSem.ClaimSeven
namespace Go.Proofs.YtojciiiilfmjgaaDoor
namespace Rows

/-- THE TIED CARD OF 'laws.FnExactCovers'. -/
def fnExactCoversCard : Claim7 := { stood := { row := fnExactCoversRow, standIns := [], harness := (true, "71f6f016ff28c1e5e461d36c897b9d6ff132ffe912a7f6e9e43940f1995e5e62"), looks := false }, kinds := [], alts := [], laidByText := true, laidKinds := [.data, .pinned], laidTests := true, laidLooks := .later }
def FnExactCoversCardSaid : Prop := Claim7.holds Tryd.pinned (.plain (OpenSpec.ofChange fnExactCoversSpec)) fnExactCoversCard

/-- THE TIED CARD OF 'laws.FnExactClosed'. -/
def fnExactClosedCard : Claim7 := { stood := { row := fnExactClosedRow, standIns := [], harness := (true, "71f6f016ff28c1e5e461d36c897b9d6ff132ffe912a7f6e9e43940f1995e5e62"), looks := false }, kinds := [], alts := [], laidByText := true, laidKinds := [.data, .pinned], laidTests := true, laidLooks := .later }
def FnExactClosedCardSaid : Prop := Claim7.holds Tryd.pinned (.plain (OpenSpec.ofChange fnExactClosedSpec)) fnExactClosedCard

/-- THE SECOND FORM's CARD OF 'laws.FnExactCovers'. -/
def fnExactCoversUptoCard : Claim7 := { stood := { row := fnExactCoversUptoRow, standIns := [], harness := (true, "71f6f016ff28c1e5e461d36c897b9d6ff132ffe912a7f6e9e43940f1995e5e62"), looks := false }, kinds := [], alts := [], laidByText := true, laidKinds := [.data, .pinned], laidTests := true, laidLooks := .later }
def FnExactCoversUptoCardSaid : Prop := Claim7.holds Tryd.pinned (.plain (OpenSpec.upto fnExactCoversSpec)) fnExactCoversUptoCard

/-- THE SECOND FORM's CARD OF 'laws.FnExactClosed'. -/
def fnExactClosedUptoCard : Claim7 := { stood := { row := fnExactClosedUptoRow, standIns := [], harness := (true, "71f6f016ff28c1e5e461d36c897b9d6ff132ffe912a7f6e9e43940f1995e5e62"), looks := false }, kinds := [], alts := [], laidByText := true, laidKinds := [.data, .pinned], laidTests := true, laidLooks := .later }
def FnExactClosedUptoCardSaid : Prop := Claim7.holds Tryd.pinned (.plain (OpenSpec.upto fnExactClosedSpec)) fnExactClosedUptoCard
end Rows
end Go.Proofs.YtojciiiilfmjgaaDoor
