/-
  No cell of these rows narrows 'for every input' (looked for: loops, veiled, ifaces, maps, wideKeys, modest, calm, conditions, laid).
  DERIVED. THE GIVEN ROWS OF THIS SEAT. 5 by the template 'for every input the law returns true; each argument reads behind the call as it read before'; 0 by the template 'total and deterministic' (their statements: YtgigbfejogbbdaaTotals.lean).
  GIVEN WITH THE SEED: the statements are not yours to turn. If you find one false, say at which input.
  Laid BY PROGRAM, IN A SANDBOX (cutbox-rows.mjs): the forced cells as the released guide's own fill.sh prints them over the translation 1ce46d3fa7967da7… (all of the seat's roots in one cut). By AI agents, Wed Nov 11 2026. No macro, syntax, notation, axiom, sorry.
-/
import Derived.Test.YtgigbfejogbbdaaChecked
import GoSem.Claim
import GoSem.ClaimJoined
import GoSem.ClaimMapViews
import Derived.JoinedTies
import Derived.KernelRfl
namespace Go.Proofs.Ytgigbfejogbbdaa
/- THE CELL 'sum', in the pinned program and in every row, IS THE sha256 OF THE DUMP (.gsa) THAT YtgigbfejogbbdaaProg.lean LOADS. Nothing in Lean hashes anything: it is a label: what it is worth is what the hold of that sum in a sandbox is worth. -/
noncomputable def Try.pinned : Pinned := { name := "ytgigbfejogbbdaa", sum := "1ce46d3fa7967da7e2ad6fc23a4b00e4af26ac893960fae869ce7c2447126f29", checked := Try.checked }
namespace Rows
def none {H : Type} : Left H := { results := [], args := [] }

/-- 'curfewlaw02.TapeNumbers': WHATEVER THE INPUT: true; the input reads as it did. -/
def tapeNumbersSpec : ChangeSpec := { name := "tapeNumbers", fn := fun _ => fun
  | [d1, d2] => { results := [.lit (.bool true)], args := [d1, d2] }
  | _ => none }
def tapeNumbersRow : OpenClaim := { program := "ytgigbfejogbbdaa", sum := "1ce46d3fa7967da7e2ad6fc23a4b00e4af26ac893960fae869ce7c2447126f29", func := "curfew/curfewlaw02.TapeNumbers", spec := "tapeNumbers", unfollowed := true, recurses := true, apart := false }
def TapeNumbersSaid : Prop := tapeNumbersRow.holds Try.pinned (OpenSpec.ofChange tapeNumbersSpec)

/-- ITS FALSE NEIGHBOUR: 'it returns false'. Refute it at one input. -/
def tapeNumbersWrong : ChangeSpec := { name := "tapeNumbers", fn := fun _ => fun
  | [d1, d2] => { results := [.lit (.bool false)], args := [d1, d2] }
  | _ => none }
def TapeNumbersWrongFalsely : Prop := tapeNumbersRow.holds Try.pinned (OpenSpec.ofChange tapeNumbersWrong)

/-- 'curfewlaw02.TapePuts': WHATEVER THE INPUT: true; the input reads as it did. -/
def tapePutsSpec : ChangeSpec := { name := "tapePuts", fn := fun _ => fun
  | [d1, d2, d3] => { results := [.lit (.bool true)], args := [d1, d2, d3] }
  | _ => none }
def tapePutsRow : OpenClaim := { program := "ytgigbfejogbbdaa", sum := "1ce46d3fa7967da7e2ad6fc23a4b00e4af26ac893960fae869ce7c2447126f29", func := "curfew/curfewlaw02.TapePuts", spec := "tapePuts", unfollowed := true, recurses := true, apart := false }
def TapePutsSaid : Prop := tapePutsRow.holds Try.pinned (OpenSpec.ofChange tapePutsSpec)

/-- ITS FALSE NEIGHBOUR: 'it returns false'. Refute it at one input. -/
def tapePutsWrong : ChangeSpec := { name := "tapePuts", fn := fun _ => fun
  | [d1, d2, d3] => { results := [.lit (.bool false)], args := [d1, d2, d3] }
  | _ => none }
def TapePutsWrongFalsely : Prop := tapePutsRow.holds Try.pinned (OpenSpec.ofChange tapePutsWrong)

/-- 'curfewlaw02.TapeBack': WHATEVER THE INPUT: true; the input reads as it did. -/
def tapeBackSpec : ChangeSpec := { name := "tapeBack", fn := fun _ => fun
  | [d1, d2, d3] => { results := [.lit (.bool true)], args := [d1, d2, d3] }
  | _ => none }
def tapeBackRow : OpenClaim := { program := "ytgigbfejogbbdaa", sum := "1ce46d3fa7967da7e2ad6fc23a4b00e4af26ac893960fae869ce7c2447126f29", func := "curfew/curfewlaw02.TapeBack", spec := "tapeBack", unfollowed := true, recurses := true, apart := false }
def TapeBackSaid : Prop := tapeBackRow.holds Try.pinned (OpenSpec.ofChange tapeBackSpec)

/-- ITS FALSE NEIGHBOUR: 'it returns false'. Refute it at one input. -/
def tapeBackWrong : ChangeSpec := { name := "tapeBack", fn := fun _ => fun
  | [d1, d2, d3] => { results := [.lit (.bool false)], args := [d1, d2, d3] }
  | _ => none }
def TapeBackWrongFalsely : Prop := tapeBackRow.holds Try.pinned (OpenSpec.ofChange tapeBackWrong)

/-- 'curfewlaw02.TapeTakes': WHATEVER THE INPUT: true; the input reads as it did. -/
def tapeTakesSpec : ChangeSpec := { name := "tapeTakes", fn := fun _ => fun
  | [d1, d2] => { results := [.lit (.bool true)], args := [d1, d2] }
  | _ => none }
def tapeTakesRow : OpenClaim := { program := "ytgigbfejogbbdaa", sum := "1ce46d3fa7967da7e2ad6fc23a4b00e4af26ac893960fae869ce7c2447126f29", func := "curfew/curfewlaw02.TapeTakes", spec := "tapeTakes", unfollowed := true, recurses := true, apart := false }
def TapeTakesSaid : Prop := tapeTakesRow.holds Try.pinned (OpenSpec.ofChange tapeTakesSpec)

/-- ITS FALSE NEIGHBOUR: 'it returns false'. Refute it at one input. -/
def tapeTakesWrong : ChangeSpec := { name := "tapeTakes", fn := fun _ => fun
  | [d1, d2] => { results := [.lit (.bool false)], args := [d1, d2] }
  | _ => none }
def TapeTakesWrongFalsely : Prop := tapeTakesRow.holds Try.pinned (OpenSpec.ofChange tapeTakesWrong)

/-- 'curfewlaw02.TapeOnce': WHATEVER THE INPUT: true; the input reads as it did. -/
def tapeOnceSpec : ChangeSpec := { name := "tapeOnce", fn := fun _ => fun
  | [d1, d2] => { results := [.lit (.bool true)], args := [d1, d2] }
  | _ => none }
def tapeOnceRow : OpenClaim := { program := "ytgigbfejogbbdaa", sum := "1ce46d3fa7967da7e2ad6fc23a4b00e4af26ac893960fae869ce7c2447126f29", func := "curfew/curfewlaw02.TapeOnce", spec := "tapeOnce", unfollowed := true, recurses := true, apart := false }
def TapeOnceSaid : Prop := tapeOnceRow.holds Try.pinned (OpenSpec.ofChange tapeOnceSpec)

/-- ITS FALSE NEIGHBOUR: 'it returns false'. Refute it at one input. -/
def tapeOnceWrong : ChangeSpec := { name := "tapeOnce", fn := fun _ => fun
  | [d1, d2] => { results := [.lit (.bool false)], args := [d1, d2] }
  | _ => none }
def TapeOnceWrongFalsely : Prop := tapeOnceRow.holds Try.pinned (OpenSpec.ofChange tapeOnceWrong)

/- THE SECOND FORM. 'bulk': how many values and letters a reading holds, each counted each time it is reached (what is shared counts as often as it is met; a slice's spare places count too). A statement '..UptoSaid' is the law's where the arguments, and the package variables that the reading takes, are together of bulk at most 1048576: NARROWER than '..Said'. Prove '..Said' where nothing that the law and all that it calls make is longer than what came in: it says more and counts as full. Else prove '..UptoSaid'. A law counts once. -/
mutual
def uptoBulk {H : Type} : DataW H → Nat
  | .lit (.string bytes) => bytes.length + 1
  | .lit _ => 1
  | .nil => 1
  | .ptr d => uptoBulk d + 1
  | .slice elems spare => uptoBulkAll elems + uptoBulkAll spare + 1
  | .agg parts => uptoBulkAll parts + 1
  | .iface _ d => uptoBulk d + 1
  | .map entries => uptoBulkEntries entries + 1
  | .held _ => 1
def uptoBulkAll {H : Type} : List (DataW H) → Nat
  | [] => 0
  | d :: r => uptoBulk d + uptoBulkAll r
def uptoBulkEntries {H : Type} : List (Lit × DataW H) → Nat
  | [] => 0
  | x :: r => uptoBulkEntry x + uptoBulkEntries r
def uptoBulkEntry {H : Type} : Lit × DataW H → Nat
  | (.string bytes, d) => bytes.length + uptoBulk d + 1
  | (_, d) => uptoBulk d + 1
 end
def uptoSmall : (H : Type) → List (DataW H) → Bool := fun _ ds => decide (uptoBulkAll ds ≤ 1048576)
def OpenSpec.upto (s : _root_.Go.ChangeSpec) : _root_.Go.OpenSpec := { _root_.Go.OpenSpec.ofChange s with cond := some uptoSmall }

/-- 'curfewlaw02.TapeNumbers', WHERE WHAT IT READS IS OF BULK AT MOST 1048576: true; the input reads as it did. -/
def tapeNumbersUptoRow : OpenClaim := { program := "ytgigbfejogbbdaa", sum := "1ce46d3fa7967da7e2ad6fc23a4b00e4af26ac893960fae869ce7c2447126f29", func := "curfew/curfewlaw02.TapeNumbers", spec := "tapeNumbers", unfollowed := true, recurses := true, apart := false, narrowed := true }
def TapeNumbersUptoSaid : Prop := tapeNumbersUptoRow.holds Try.pinned (OpenSpec.upto tapeNumbersSpec)

/-- 'curfewlaw02.TapePuts', WHERE WHAT IT READS IS OF BULK AT MOST 1048576: true; the input reads as it did. -/
def tapePutsUptoRow : OpenClaim := { program := "ytgigbfejogbbdaa", sum := "1ce46d3fa7967da7e2ad6fc23a4b00e4af26ac893960fae869ce7c2447126f29", func := "curfew/curfewlaw02.TapePuts", spec := "tapePuts", unfollowed := true, recurses := true, apart := false, narrowed := true }
def TapePutsUptoSaid : Prop := tapePutsUptoRow.holds Try.pinned (OpenSpec.upto tapePutsSpec)

/-- 'curfewlaw02.TapeBack', WHERE WHAT IT READS IS OF BULK AT MOST 1048576: true; the input reads as it did. -/
def tapeBackUptoRow : OpenClaim := { program := "ytgigbfejogbbdaa", sum := "1ce46d3fa7967da7e2ad6fc23a4b00e4af26ac893960fae869ce7c2447126f29", func := "curfew/curfewlaw02.TapeBack", spec := "tapeBack", unfollowed := true, recurses := true, apart := false, narrowed := true }
def TapeBackUptoSaid : Prop := tapeBackUptoRow.holds Try.pinned (OpenSpec.upto tapeBackSpec)

/-- 'curfewlaw02.TapeTakes', WHERE WHAT IT READS IS OF BULK AT MOST 1048576: true; the input reads as it did. -/
def tapeTakesUptoRow : OpenClaim := { program := "ytgigbfejogbbdaa", sum := "1ce46d3fa7967da7e2ad6fc23a4b00e4af26ac893960fae869ce7c2447126f29", func := "curfew/curfewlaw02.TapeTakes", spec := "tapeTakes", unfollowed := true, recurses := true, apart := false, narrowed := true }
def TapeTakesUptoSaid : Prop := tapeTakesUptoRow.holds Try.pinned (OpenSpec.upto tapeTakesSpec)

/-- 'curfewlaw02.TapeOnce', WHERE WHAT IT READS IS OF BULK AT MOST 1048576: true; the input reads as it did. -/
def tapeOnceUptoRow : OpenClaim := { program := "ytgigbfejogbbdaa", sum := "1ce46d3fa7967da7e2ad6fc23a4b00e4af26ac893960fae869ce7c2447126f29", func := "curfew/curfewlaw02.TapeOnce", spec := "tapeOnce", unfollowed := true, recurses := true, apart := false, narrowed := true }
def TapeOnceUptoSaid : Prop := tapeOnceUptoRow.holds Try.pinned (OpenSpec.upto tapeOnceSpec)

end Rows
end Go.Proofs.Ytgigbfejogbbdaa
