/-
  No cell of these rows narrows 'for every input' (looked for: loops, veiled, ifaces, maps, wideKeys, modest, calm, conditions, laid).
  DERIVED. THE GIVEN ROWS OF THIS SEAT. 6 by the template 'for every input the law returns true; each argument reads behind the call as it read before'; 0 by the template 'total and deterministic' (their statements: YtgjplmfciffloaaTotals.lean).
  GIVEN WITH THE SEED: the statements are not yours to turn. If you find one false, say at which input.
  Laid BY PROGRAM, IN A SANDBOX (cutbox-rows.mjs): the forced cells as the released guide's own fill.sh prints them over the translation f55401f65432bc01… (all of the seat's roots in one cut). By AI agents, Wed Nov 11 2026. No macro, syntax, notation, axiom, sorry.
-/
import Derived.Test.YtgjplmfciffloaaChecked
import GoSem.Claim
import GoSem.ClaimJoined
import GoSem.ClaimMapViews
import Derived.JoinedTies
import Derived.KernelRfl
namespace Go.Proofs.Ytgjplmfciffloaa
/- THE CELL 'sum', in the pinned program and in every row, IS THE sha256 OF THE DUMP (.gsa) THAT YtgjplmfciffloaaProg.lean LOADS. Nothing in Lean hashes anything: it is a label: what it is worth is what the hold of that sum in a sandbox is worth. -/
noncomputable def Try.pinned : Pinned := { name := "ytgjplmfciffloaa", sum := "f55401f65432bc016338bd7f13c79d3c9dcf947e46f116465398f28dedc0dbbf", checked := Try.checked }
namespace Rows
def none {H : Type} : Left H := { results := [], args := [] }

/-- 'curfewlaw15.InputAsks': WHATEVER THE INPUT: true; the input reads as it did. -/
def inputAsksSpec : ChangeSpec := { name := "inputAsks", fn := fun _ => fun
  | [d1, d2] => { results := [.lit (.bool true)], args := [d1, d2] }
  | _ => none }
def inputAsksRow : OpenClaim := { program := "ytgjplmfciffloaa", sum := "f55401f65432bc016338bd7f13c79d3c9dcf947e46f116465398f28dedc0dbbf", func := "curfew/curfewlaw15.InputAsks", spec := "inputAsks", unfollowed := true, recurses := true, apart := false }
def InputAsksSaid : Prop := inputAsksRow.holds Try.pinned (OpenSpec.ofChange inputAsksSpec)

/-- ITS FALSE NEIGHBOUR: 'it returns false'. Refute it at one input. -/
def inputAsksWrong : ChangeSpec := { name := "inputAsks", fn := fun _ => fun
  | [d1, d2] => { results := [.lit (.bool false)], args := [d1, d2] }
  | _ => none }
def InputAsksWrongFalsely : Prop := inputAsksRow.holds Try.pinned (OpenSpec.ofChange inputAsksWrong)

/-- 'curfewlaw15.InputCodes': WHATEVER THE INPUT: true; the input reads as it did. -/
def inputCodesSpec : ChangeSpec := { name := "inputCodes", fn := fun _ => fun
  | [d1, d2] => { results := [.lit (.bool true)], args := [d1, d2] }
  | _ => none }
def inputCodesRow : OpenClaim := { program := "ytgjplmfciffloaa", sum := "f55401f65432bc016338bd7f13c79d3c9dcf947e46f116465398f28dedc0dbbf", func := "curfew/curfewlaw15.InputCodes", spec := "inputCodes", unfollowed := true, recurses := true, apart := false }
def InputCodesSaid : Prop := inputCodesRow.holds Try.pinned (OpenSpec.ofChange inputCodesSpec)

/-- ITS FALSE NEIGHBOUR: 'it returns false'. Refute it at one input. -/
def inputCodesWrong : ChangeSpec := { name := "inputCodes", fn := fun _ => fun
  | [d1, d2] => { results := [.lit (.bool false)], args := [d1, d2] }
  | _ => none }
def InputCodesWrongFalsely : Prop := inputCodesRow.holds Try.pinned (OpenSpec.ofChange inputCodesWrong)

/-- 'curfewlaw15.InputApart': WHATEVER THE INPUT: true; the input reads as it did. -/
def inputApartSpec : ChangeSpec := { name := "inputApart", fn := fun _ => fun
  | [d1, d2] => { results := [.lit (.bool true)], args := [d1, d2] }
  | _ => none }
def inputApartRow : OpenClaim := { program := "ytgjplmfciffloaa", sum := "f55401f65432bc016338bd7f13c79d3c9dcf947e46f116465398f28dedc0dbbf", func := "curfew/curfewlaw15.InputApart", spec := "inputApart", unfollowed := true, recurses := true, apart := false }
def InputApartSaid : Prop := inputApartRow.holds Try.pinned (OpenSpec.ofChange inputApartSpec)

/-- ITS FALSE NEIGHBOUR: 'it returns false'. Refute it at one input. -/
def inputApartWrong : ChangeSpec := { name := "inputApart", fn := fun _ => fun
  | [d1, d2] => { results := [.lit (.bool false)], args := [d1, d2] }
  | _ => none }
def InputApartWrongFalsely : Prop := inputApartRow.holds Try.pinned (OpenSpec.ofChange inputApartWrong)

/-- 'curfewlaw15.InputReplies': WHATEVER THE INPUT: true; the input reads as it did. -/
def inputRepliesSpec : ChangeSpec := { name := "inputReplies", fn := fun _ => fun
  | [d1, d2] => { results := [.lit (.bool true)], args := [d1, d2] }
  | _ => none }
def inputRepliesRow : OpenClaim := { program := "ytgjplmfciffloaa", sum := "f55401f65432bc016338bd7f13c79d3c9dcf947e46f116465398f28dedc0dbbf", func := "curfew/curfewlaw15.InputReplies", spec := "inputReplies", unfollowed := true, recurses := true, apart := false }
def InputRepliesSaid : Prop := inputRepliesRow.holds Try.pinned (OpenSpec.ofChange inputRepliesSpec)

/-- ITS FALSE NEIGHBOUR: 'it returns false'. Refute it at one input. -/
def inputRepliesWrong : ChangeSpec := { name := "inputReplies", fn := fun _ => fun
  | [d1, d2] => { results := [.lit (.bool false)], args := [d1, d2] }
  | _ => none }
def InputRepliesWrongFalsely : Prop := inputRepliesRow.holds Try.pinned (OpenSpec.ofChange inputRepliesWrong)

/-- 'curfewlaw15.InputBack': WHATEVER THE INPUT: true; the input reads as it did. -/
def inputBackSpec : ChangeSpec := { name := "inputBack", fn := fun _ => fun
  | [d1, d2, d3] => { results := [.lit (.bool true)], args := [d1, d2, d3] }
  | _ => none }
def inputBackRow : OpenClaim := { program := "ytgjplmfciffloaa", sum := "f55401f65432bc016338bd7f13c79d3c9dcf947e46f116465398f28dedc0dbbf", func := "curfew/curfewlaw15.InputBack", spec := "inputBack", unfollowed := true, recurses := true, apart := false }
def InputBackSaid : Prop := inputBackRow.holds Try.pinned (OpenSpec.ofChange inputBackSpec)

/-- ITS FALSE NEIGHBOUR: 'it returns false'. Refute it at one input. -/
def inputBackWrong : ChangeSpec := { name := "inputBack", fn := fun _ => fun
  | [d1, d2, d3] => { results := [.lit (.bool false)], args := [d1, d2, d3] }
  | _ => none }
def InputBackWrongFalsely : Prop := inputBackRow.holds Try.pinned (OpenSpec.ofChange inputBackWrong)

/-- 'curfewlaw15.InputAgain': WHATEVER THE INPUT: true; the input reads as it did. -/
def inputAgainSpec : ChangeSpec := { name := "inputAgain", fn := fun _ => fun
  | [d] => { results := [.lit (.bool true)], args := [d] }
  | _ => none }
def inputAgainRow : OpenClaim := { program := "ytgjplmfciffloaa", sum := "f55401f65432bc016338bd7f13c79d3c9dcf947e46f116465398f28dedc0dbbf", func := "curfew/curfewlaw15.InputAgain", spec := "inputAgain", unfollowed := true, recurses := true, apart := false }
def InputAgainSaid : Prop := inputAgainRow.holds Try.pinned (OpenSpec.ofChange inputAgainSpec)

/-- ITS FALSE NEIGHBOUR: 'it returns false'. Refute it at one input. -/
def inputAgainWrong : ChangeSpec := { name := "inputAgain", fn := fun _ => fun
  | [d] => { results := [.lit (.bool false)], args := [d] }
  | _ => none }
def InputAgainWrongFalsely : Prop := inputAgainRow.holds Try.pinned (OpenSpec.ofChange inputAgainWrong)

/- THE SECOND FORM. 'bulk': how many values and letters a reading holds, each counted each time it is reached (what is shared counts as often as it is met; a slice's spare places count too). A statement '..UptoSaid' is the law's where the arguments, and the package variables that the reading takes, are together of bulk at most 1048576: NARROWER than '..Said'. Prove '..Said' where nothing that the law and all that it calls make is longer than what came in: it says more and counts as full. Else prove '..UptoSaid'. A law counts once. -/
mutual
def uptoBulk {H : Type} : DataW H → Nat
  | .lit (.string bytes) => bytes.length + 1
  | .lit _ => 1
  | .nil => 1
  | .ptr d => uptoBulk d + 1
  | .slice elems spare => uptoBulkAll elems + uptoBulkAll spare + 1
  | .agg parts => uptoBulkAll parts + 1
  | .iface _ d => uptoBulk d + 1
  | .map entries => uptoBulkEntries entries + 1
  | .held _ => 1
def uptoBulkAll {H : Type} : List (DataW H) → Nat
  | [] => 0
  | d :: r => uptoBulk d + uptoBulkAll r
def uptoBulkEntries {H : Type} : List (Lit × DataW H) → Nat
  | [] => 0
  | x :: r => uptoBulkEntry x + uptoBulkEntries r
def uptoBulkEntry {H : Type} : Lit × DataW H → Nat
  | (.string bytes, d) => bytes.length + uptoBulk d + 1
  | (_, d) => uptoBulk d + 1
 end
def uptoSmall : (H : Type) → List (DataW H) → Bool := fun _ ds => decide (uptoBulkAll ds ≤ 1048576)
def OpenSpec.upto (s : _root_.Go.ChangeSpec) : _root_.Go.OpenSpec := { _root_.Go.OpenSpec.ofChange s with cond := some uptoSmall }

/-- 'curfewlaw15.InputAsks', WHERE WHAT IT READS IS OF BULK AT MOST 1048576: true; the input reads as it did. -/
def inputAsksUptoRow : OpenClaim := { program := "ytgjplmfciffloaa", sum := "f55401f65432bc016338bd7f13c79d3c9dcf947e46f116465398f28dedc0dbbf", func := "curfew/curfewlaw15.InputAsks", spec := "inputAsks", unfollowed := true, recurses := true, apart := false, narrowed := true }
def InputAsksUptoSaid : Prop := inputAsksUptoRow.holds Try.pinned (OpenSpec.upto inputAsksSpec)

/-- 'curfewlaw15.InputCodes', WHERE WHAT IT READS IS OF BULK AT MOST 1048576: true; the input reads as it did. -/
def inputCodesUptoRow : OpenClaim := { program := "ytgjplmfciffloaa", sum := "f55401f65432bc016338bd7f13c79d3c9dcf947e46f116465398f28dedc0dbbf", func := "curfew/curfewlaw15.InputCodes", spec := "inputCodes", unfollowed := true, recurses := true, apart := false, narrowed := true }
def InputCodesUptoSaid : Prop := inputCodesUptoRow.holds Try.pinned (OpenSpec.upto inputCodesSpec)

/-- 'curfewlaw15.InputApart', WHERE WHAT IT READS IS OF BULK AT MOST 1048576: true; the input reads as it did. -/
def inputApartUptoRow : OpenClaim := { program := "ytgjplmfciffloaa", sum := "f55401f65432bc016338bd7f13c79d3c9dcf947e46f116465398f28dedc0dbbf", func := "curfew/curfewlaw15.InputApart", spec := "inputApart", unfollowed := true, recurses := true, apart := false, narrowed := true }
def InputApartUptoSaid : Prop := inputApartUptoRow.holds Try.pinned (OpenSpec.upto inputApartSpec)

/-- 'curfewlaw15.InputReplies', WHERE WHAT IT READS IS OF BULK AT MOST 1048576: true; the input reads as it did. -/
def inputRepliesUptoRow : OpenClaim := { program := "ytgjplmfciffloaa", sum := "f55401f65432bc016338bd7f13c79d3c9dcf947e46f116465398f28dedc0dbbf", func := "curfew/curfewlaw15.InputReplies", spec := "inputReplies", unfollowed := true, recurses := true, apart := false, narrowed := true }
def InputRepliesUptoSaid : Prop := inputRepliesUptoRow.holds Try.pinned (OpenSpec.upto inputRepliesSpec)

/-- 'curfewlaw15.InputBack', WHERE WHAT IT READS IS OF BULK AT MOST 1048576: true; the input reads as it did. -/
def inputBackUptoRow : OpenClaim := { program := "ytgjplmfciffloaa", sum := "f55401f65432bc016338bd7f13c79d3c9dcf947e46f116465398f28dedc0dbbf", func := "curfew/curfewlaw15.InputBack", spec := "inputBack", unfollowed := true, recurses := true, apart := false, narrowed := true }
def InputBackUptoSaid : Prop := inputBackUptoRow.holds Try.pinned (OpenSpec.upto inputBackSpec)

/-- 'curfewlaw15.InputAgain', WHERE WHAT IT READS IS OF BULK AT MOST 1048576: true; the input reads as it did. -/
def inputAgainUptoRow : OpenClaim := { program := "ytgjplmfciffloaa", sum := "f55401f65432bc016338bd7f13c79d3c9dcf947e46f116465398f28dedc0dbbf", func := "curfew/curfewlaw15.InputAgain", spec := "inputAgain", unfollowed := true, recurses := true, apart := false, narrowed := true }
def InputAgainUptoSaid : Prop := inputAgainUptoRow.holds Try.pinned (OpenSpec.upto inputAgainSpec)

end Rows
end Go.Proofs.Ytgjplmfciffloaa
