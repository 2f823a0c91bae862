/-
  DERIVED. GIVEN WITH THE SEED: THE CARDS: each row of YthcpfbgiajfajaaDoorRows.lean that lists a variable, with what it lists TIED to the program's text (the seventh form; the later family's looks); each row that meets fmt, with fmt's text TOLD by the authors' own Lean function (tested against real Go, not proved from fmt's source: count such statements apart). THE CARD IS WHAT COUNTS. Prove the row's statement (the work); the ties are given (YthcpfbgiajfajaaDoorTie.lean); close each card by the builder's one call (the guide's Derived/Test/ToyasCard.lean, 'card_holds'). Laid BY PROGRAM, IN A SANDBOX (cutbox-door.mjs). By AI agents, Wed Nov 11 2026. No macro, syntax, notation, axiom, sorry.
-/
import Derived.Test.YthcpfbgiajfajaaDoorRows
import GoSem.ClaimSeven
namespace Go.Proofs.YthcpfbgiajfajaaDoor
namespace Rows

/-- THE TIED CARD OF 'curfewlaw01.MaskSpans'. -/
def maskSpansCard : Claim7 := { stood := { row := maskSpansRow, standIns := [], harness := (true, "efe44282c1e62c433852e15ccaaccab266a41a86cd8ed1e32959fd8b652c3954"), looks := false }, kinds := [], alts := [], laidByText := true, laidKinds := [.data], laidTests := true, laidLooks := .later }
def MaskSpansCardSaid : Prop := Claim7.holds Tryd.pinned (.plain (OpenSpec.ofChange maskSpansSpec)) maskSpansCard

/-- THE TIED CARD OF 'curfewlaw01.MaskMakes'. -/
def maskMakesCard : Claim7 := { stood := { row := maskMakesRow, standIns := [], harness := (true, "efe44282c1e62c433852e15ccaaccab266a41a86cd8ed1e32959fd8b652c3954"), looks := false }, kinds := [], alts := [], laidByText := true, laidKinds := [.data], laidTests := true, laidLooks := .later }
def MaskMakesCardSaid : Prop := Claim7.holds Tryd.pinned (.plain (OpenSpec.ofChange maskMakesSpec)) maskMakesCard

/-- THE TIED CARD OF 'curfewlaw01.MaskSets'. -/
def maskSetsCard : Claim7 := { stood := { row := maskSetsRow, standIns := [], harness := (true, "efe44282c1e62c433852e15ccaaccab266a41a86cd8ed1e32959fd8b652c3954"), looks := false }, kinds := [], alts := [], laidByText := true, laidKinds := [.data], laidTests := true, laidLooks := .later }
def MaskSetsCardSaid : Prop := Claim7.holds Tryd.pinned (.plain (OpenSpec.ofChange maskSetsSpec)) maskSetsCard

/-- THE TIED CARD OF 'curfewlaw01.MaskBack'. -/
def maskBackCard : Claim7 := { stood := { row := maskBackRow, standIns := [], harness := (true, "efe44282c1e62c433852e15ccaaccab266a41a86cd8ed1e32959fd8b652c3954"), looks := false }, kinds := [], alts := [], laidByText := true, laidKinds := [.data], laidTests := true, laidLooks := .later }
def MaskBackCardSaid : Prop := Claim7.holds Tryd.pinned (.plain (OpenSpec.ofChange maskBackSpec)) maskBackCard

/-- THE TIED CARD OF 'curfewlaw01.MaskJoins'. -/
def maskJoinsCard : Claim7 := { stood := { row := maskJoinsRow, standIns := [], harness := (true, "efe44282c1e62c433852e15ccaaccab266a41a86cd8ed1e32959fd8b652c3954"), looks := false }, kinds := [], alts := [], laidByText := true, laidKinds := [.data], laidTests := true, laidLooks := .later }
def MaskJoinsCardSaid : Prop := Claim7.holds Tryd.pinned (.plain (OpenSpec.ofChange maskJoinsSpec)) maskJoinsCard

/-- THE TIED CARD OF 'curfewlaw01.MaskTells'. -/
def maskTellsCard : Claim7 := { stood := { row := maskTellsRow, standIns := [], harness := (true, "efe44282c1e62c433852e15ccaaccab266a41a86cd8ed1e32959fd8b652c3954"), looks := false }, kinds := [], alts := [], laidByText := true, laidKinds := [.data], laidTests := true, laidLooks := .later }
def MaskTellsCardSaid : Prop := Claim7.holds Tryd.pinned (.plain (OpenSpec.ofChange maskTellsSpec)) maskTellsCard

/-- THE TIED CARD OF 'curfewlaw01.MaskNext'. -/
def maskNextCard : Claim7 := { stood := { row := maskNextRow, standIns := [], harness := (true, "efe44282c1e62c433852e15ccaaccab266a41a86cd8ed1e32959fd8b652c3954"), looks := false }, kinds := [], alts := [], laidByText := true, laidKinds := [.data], laidTests := true, laidLooks := .later }
def MaskNextCardSaid : Prop := Claim7.holds Tryd.pinned (.plain (OpenSpec.ofChange maskNextSpec)) maskNextCard

/-- THE SECOND FORM's CARD OF 'curfewlaw01.MaskSpans'. -/
def maskSpansUptoCard : Claim7 := { stood := { row := maskSpansUptoRow, standIns := [], harness := (true, "efe44282c1e62c433852e15ccaaccab266a41a86cd8ed1e32959fd8b652c3954"), looks := false }, kinds := [], alts := [], laidByText := true, laidKinds := [.data], laidTests := true, laidLooks := .later }
def MaskSpansUptoCardSaid : Prop := Claim7.holds Tryd.pinned (.plain (OpenSpec.upto maskSpansSpec)) maskSpansUptoCard

/-- THE SECOND FORM's CARD OF 'curfewlaw01.MaskMakes'. -/
def maskMakesUptoCard : Claim7 := { stood := { row := maskMakesUptoRow, standIns := [], harness := (true, "efe44282c1e62c433852e15ccaaccab266a41a86cd8ed1e32959fd8b652c3954"), looks := false }, kinds := [], alts := [], laidByText := true, laidKinds := [.data], laidTests := true, laidLooks := .later }
def MaskMakesUptoCardSaid : Prop := Claim7.holds Tryd.pinned (.plain (OpenSpec.upto maskMakesSpec)) maskMakesUptoCard

/-- THE SECOND FORM's CARD OF 'curfewlaw01.MaskSets'. -/
def maskSetsUptoCard : Claim7 := { stood := { row := maskSetsUptoRow, standIns := [], harness := (true, "efe44282c1e62c433852e15ccaaccab266a41a86cd8ed1e32959fd8b652c3954"), looks := false }, kinds := [], alts := [], laidByText := true, laidKinds := [.data], laidTests := true, laidLooks := .later }
def MaskSetsUptoCardSaid : Prop := Claim7.holds Tryd.pinned (.plain (OpenSpec.upto maskSetsSpec)) maskSetsUptoCard

/-- THE SECOND FORM's CARD OF 'curfewlaw01.MaskBack'. -/
def maskBackUptoCard : Claim7 := { stood := { row := maskBackUptoRow, standIns := [], harness := (true, "efe44282c1e62c433852e15ccaaccab266a41a86cd8ed1e32959fd8b652c3954"), looks := false }, kinds := [], alts := [], laidByText := true, laidKinds := [.data], laidTests := true, laidLooks := .later }
def MaskBackUptoCardSaid : Prop := Claim7.holds Tryd.pinned (.plain (OpenSpec.upto maskBackSpec)) maskBackUptoCard

/-- THE SECOND FORM's CARD OF 'curfewlaw01.MaskJoins'. -/
def maskJoinsUptoCard : Claim7 := { stood := { row := maskJoinsUptoRow, standIns := [], harness := (true, "efe44282c1e62c433852e15ccaaccab266a41a86cd8ed1e32959fd8b652c3954"), looks := false }, kinds := [], alts := [], laidByText := true, laidKinds := [.data], laidTests := true, laidLooks := .later }
def MaskJoinsUptoCardSaid : Prop := Claim7.holds Tryd.pinned (.plain (OpenSpec.upto maskJoinsSpec)) maskJoinsUptoCard

/-- THE SECOND FORM's CARD OF 'curfewlaw01.MaskTells'. -/
def maskTellsUptoCard : Claim7 := { stood := { row := maskTellsUptoRow, standIns := [], harness := (true, "efe44282c1e62c433852e15ccaaccab266a41a86cd8ed1e32959fd8b652c3954"), looks := false }, kinds := [], alts := [], laidByText := true, laidKinds := [.data], laidTests := true, laidLooks := .later }
def MaskTellsUptoCardSaid : Prop := Claim7.holds Tryd.pinned (.plain (OpenSpec.upto maskTellsSpec)) maskTellsUptoCard

/-- THE SECOND FORM's CARD OF 'curfewlaw01.MaskNext'. -/
def maskNextUptoCard : Claim7 := { stood := { row := maskNextUptoRow, standIns := [], harness := (true, "efe44282c1e62c433852e15ccaaccab266a41a86cd8ed1e32959fd8b652c3954"), looks := false }, kinds := [], alts := [], laidByText := true, laidKinds := [.data], laidTests := true, laidLooks := .later }
def MaskNextUptoCardSaid : Prop := Claim7.holds Tryd.pinned (.plain (OpenSpec.upto maskNextSpec)) maskNextUptoCard
end Rows
end Go.Proofs.YthcpfbgiajfajaaDoor
