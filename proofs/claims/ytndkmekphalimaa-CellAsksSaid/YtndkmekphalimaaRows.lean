/-
  No cell of these rows narrows 'for every input' (looked for: loops, veiled, ifaces, maps, wideKeys, modest, calm, conditions, laid).
  DERIVED. THE GIVEN ROWS OF THIS SEAT. 4 by the template 'for every input the law returns true; each argument reads behind the call as it read before'; 0 by the template 'total and deterministic' (their statements: YtndkmekphalimaaTotals.lean).
  GIVEN WITH THE SEED: the statements are not yours to turn. If you find one false, say at which input.
  Laid BY PROGRAM, IN A SANDBOX (cutbox-rows.mjs): the forced cells as the released guide's own fill.sh prints them over the translation 802bac73b04435ce… (all of the seat's roots in one cut). By AI agents, Wed Nov 11 2026. No macro, syntax, notation, axiom, sorry.
-/
import Derived.Test.YtndkmekphalimaaChecked
import GoSem.Claim
import GoSem.ClaimJoined
import GoSem.ClaimMapViews
import Derived.JoinedTies
import Derived.KernelRfl
namespace Go.Proofs.Ytndkmekphalimaa
/- THE CELL 'sum', in the pinned program and in every row, IS THE sha256 OF THE DUMP (.gsa) THAT YtndkmekphalimaaProg.lean LOADS. Nothing in Lean hashes anything: it is a label: what it is worth is what the hold of that sum in a sandbox is worth. -/
noncomputable def Try.pinned : Pinned := { name := "ytndkmekphalimaa", sum := "802bac73b04435cec5cdb593bc81bbcd1e7cf19dcd8c3768a1605ca049f79f82", checked := Try.checked }
namespace Rows
def none {H : Type} : Left H := { results := [], args := [] }

/-- 'curfewlaw21.CellRefuses': WHATEVER THE INPUT: true; the input reads as it did. -/
def cellRefusesSpec : ChangeSpec := { name := "cellRefuses", fn := fun _ => fun
  | [d1, d2] => { results := [.lit (.bool true)], args := [d1, d2] }
  | _ => none }
def cellRefusesRow : OpenClaim := { program := "ytndkmekphalimaa", sum := "802bac73b04435cec5cdb593bc81bbcd1e7cf19dcd8c3768a1605ca049f79f82", func := "curfew/curfewlaw21.CellRefuses", spec := "cellRefuses", unfollowed := true, recurses := true, apart := false }
def CellRefusesSaid : Prop := cellRefusesRow.holds Try.pinned (OpenSpec.ofChange cellRefusesSpec)

/-- ITS FALSE NEIGHBOUR: 'it returns false'. Refute it at one input. -/
def cellRefusesWrong : ChangeSpec := { name := "cellRefuses", fn := fun _ => fun
  | [d1, d2] => { results := [.lit (.bool false)], args := [d1, d2] }
  | _ => none }
def CellRefusesWrongFalsely : Prop := cellRefusesRow.holds Try.pinned (OpenSpec.ofChange cellRefusesWrong)

/-- 'curfewlaw21.CellRises': WHATEVER THE INPUT: true; the input reads as it did. -/
def cellRisesSpec : ChangeSpec := { name := "cellRises", fn := fun _ => fun
  | [d1, d2] => { results := [.lit (.bool true)], args := [d1, d2] }
  | _ => none }
def cellRisesRow : OpenClaim := { program := "ytndkmekphalimaa", sum := "802bac73b04435cec5cdb593bc81bbcd1e7cf19dcd8c3768a1605ca049f79f82", func := "curfew/curfewlaw21.CellRises", spec := "cellRises", unfollowed := true, recurses := true, apart := false }
def CellRisesSaid : Prop := cellRisesRow.holds Try.pinned (OpenSpec.ofChange cellRisesSpec)

/-- ITS FALSE NEIGHBOUR: 'it returns false'. Refute it at one input. -/
def cellRisesWrong : ChangeSpec := { name := "cellRises", fn := fun _ => fun
  | [d1, d2] => { results := [.lit (.bool false)], args := [d1, d2] }
  | _ => none }
def CellRisesWrongFalsely : Prop := cellRisesRow.holds Try.pinned (OpenSpec.ofChange cellRisesWrong)

/-- 'curfewlaw21.CellAgain': WHATEVER THE INPUT: true; the input reads as it did. -/
def cellAgainSpec : ChangeSpec := { name := "cellAgain", fn := fun _ => fun
  | [d1, d2, d3] => { results := [.lit (.bool true)], args := [d1, d2, d3] }
  | _ => none }
def cellAgainRow : OpenClaim := { program := "ytndkmekphalimaa", sum := "802bac73b04435cec5cdb593bc81bbcd1e7cf19dcd8c3768a1605ca049f79f82", func := "curfew/curfewlaw21.CellAgain", spec := "cellAgain", unfollowed := true, recurses := true, apart := false }
def CellAgainSaid : Prop := cellAgainRow.holds Try.pinned (OpenSpec.ofChange cellAgainSpec)

/-- ITS FALSE NEIGHBOUR: 'it returns false'. Refute it at one input. -/
def cellAgainWrong : ChangeSpec := { name := "cellAgain", fn := fun _ => fun
  | [d1, d2, d3] => { results := [.lit (.bool false)], args := [d1, d2, d3] }
  | _ => none }
def CellAgainWrongFalsely : Prop := cellAgainRow.holds Try.pinned (OpenSpec.ofChange cellAgainWrong)

/-- 'curfewlaw21.CellAsks': WHATEVER THE INPUT: true; the input reads as it did. -/
def cellAsksSpec : ChangeSpec := { name := "cellAsks", fn := fun _ => fun
  | [d1, d2] => { results := [.lit (.bool true)], args := [d1, d2] }
  | _ => none }
def cellAsksRow : OpenClaim := { program := "ytndkmekphalimaa", sum := "802bac73b04435cec5cdb593bc81bbcd1e7cf19dcd8c3768a1605ca049f79f82", func := "curfew/curfewlaw21.CellAsks", spec := "cellAsks", unfollowed := true, recurses := true, apart := false }
def CellAsksSaid : Prop := cellAsksRow.holds Try.pinned (OpenSpec.ofChange cellAsksSpec)

/-- ITS FALSE NEIGHBOUR: 'it returns false'. Refute it at one input. -/
def cellAsksWrong : ChangeSpec := { name := "cellAsks", fn := fun _ => fun
  | [d1, d2] => { results := [.lit (.bool false)], args := [d1, d2] }
  | _ => none }
def CellAsksWrongFalsely : Prop := cellAsksRow.holds Try.pinned (OpenSpec.ofChange cellAsksWrong)

/- THE SECOND FORM. 'bulk': how many values and letters a reading holds, each counted each time it is reached (what is shared counts as often as it is met; a slice's spare places count too). A statement '..UptoSaid' is the law's where the arguments, and the package variables that the reading takes, are together of bulk at most 1048576: NARROWER than '..Said'. Prove '..Said' where nothing that the law and all that it calls make is longer than what came in: it says more and counts as full. Else prove '..UptoSaid'. A law counts once. -/
mutual
def uptoBulk {H : Type} : DataW H → Nat
  | .lit (.string bytes) => bytes.length + 1
  | .lit _ => 1
  | .nil => 1
  | .ptr d => uptoBulk d + 1
  | .slice elems spare => uptoBulkAll elems + uptoBulkAll spare + 1
  | .agg parts => uptoBulkAll parts + 1
  | .iface _ d => uptoBulk d + 1
  | .map entries => uptoBulkEntries entries + 1
  | .held _ => 1
def uptoBulkAll {H : Type} : List (DataW H) → Nat
  | [] => 0
  | d :: r => uptoBulk d + uptoBulkAll r
def uptoBulkEntries {H : Type} : List (Lit × DataW H) → Nat
  | [] => 0
  | x :: r => uptoBulkEntry x + uptoBulkEntries r
def uptoBulkEntry {H : Type} : Lit × DataW H → Nat
  | (.string bytes, d) => bytes.length + uptoBulk d + 1
  | (_, d) => uptoBulk d + 1
 end
def uptoSmall : (H : Type) → List (DataW H) → Bool := fun _ ds => decide (uptoBulkAll ds ≤ 1048576)
def OpenSpec.upto (s : _root_.Go.ChangeSpec) : _root_.Go.OpenSpec := { _root_.Go.OpenSpec.ofChange s with cond := some uptoSmall }

/-- 'curfewlaw21.CellRefuses', WHERE WHAT IT READS IS OF BULK AT MOST 1048576: true; the input reads as it did. -/
def cellRefusesUptoRow : OpenClaim := { program := "ytndkmekphalimaa", sum := "802bac73b04435cec5cdb593bc81bbcd1e7cf19dcd8c3768a1605ca049f79f82", func := "curfew/curfewlaw21.CellRefuses", spec := "cellRefuses", unfollowed := true, recurses := true, apart := false, narrowed := true }
def CellRefusesUptoSaid : Prop := cellRefusesUptoRow.holds Try.pinned (OpenSpec.upto cellRefusesSpec)

/-- 'curfewlaw21.CellRises', WHERE WHAT IT READS IS OF BULK AT MOST 1048576: true; the input reads as it did. -/
def cellRisesUptoRow : OpenClaim := { program := "ytndkmekphalimaa", sum := "802bac73b04435cec5cdb593bc81bbcd1e7cf19dcd8c3768a1605ca049f79f82", func := "curfew/curfewlaw21.CellRises", spec := "cellRises", unfollowed := true, recurses := true, apart := false, narrowed := true }
def CellRisesUptoSaid : Prop := cellRisesUptoRow.holds Try.pinned (OpenSpec.upto cellRisesSpec)

/-- 'curfewlaw21.CellAgain', WHERE WHAT IT READS IS OF BULK AT MOST 1048576: true; the input reads as it did. -/
def cellAgainUptoRow : OpenClaim := { program := "ytndkmekphalimaa", sum := "802bac73b04435cec5cdb593bc81bbcd1e7cf19dcd8c3768a1605ca049f79f82", func := "curfew/curfewlaw21.CellAgain", spec := "cellAgain", unfollowed := true, recurses := true, apart := false, narrowed := true }
def CellAgainUptoSaid : Prop := cellAgainUptoRow.holds Try.pinned (OpenSpec.upto cellAgainSpec)

/-- 'curfewlaw21.CellAsks', WHERE WHAT IT READS IS OF BULK AT MOST 1048576: true; the input reads as it did. -/
def cellAsksUptoRow : OpenClaim := { program := "ytndkmekphalimaa", sum := "802bac73b04435cec5cdb593bc81bbcd1e7cf19dcd8c3768a1605ca049f79f82", func := "curfew/curfewlaw21.CellAsks", spec := "cellAsks", unfollowed := true, recurses := true, apart := false, narrowed := true }
def CellAsksUptoSaid : Prop := cellAsksUptoRow.holds Try.pinned (OpenSpec.upto cellAsksSpec)

end Rows
end Go.Proofs.Ytndkmekphalimaa
