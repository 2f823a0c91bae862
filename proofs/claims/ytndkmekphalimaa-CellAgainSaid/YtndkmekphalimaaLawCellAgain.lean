/- CellAgain of chapter 21: the law's function answers true whatever comes in, and what came in reads as it did. Its code is reckoned by the executor of the texts V; its plain function is shown to be true always. No conditions. -/
import Derived.Test.YtndkmekphalimaaRows
import Derived.Test.YtndkmekphalimaaS2
import Derived.WalkKit
import Derived.ProofKit
import Derived.OpenShut
import Derived.SizedLaws
namespace Go.Proofs.Ytndkmekphalimaa.cellAgain
open Go.ChangeShapes Go.WideShapes Go.RowKit Go.V Go.V21
set_option maxRecDepth 100000
theorem own : ownKnob Try.prog.godebug = none := by kernel_rfl
theorem laidOut : laidOutB Try.prog = true := by kernel_rfl
theorem ok : FnOk Try.prog 5 (lawSpec s5.A s5.shape f5) := ok5
set_option maxHeartbeats 2000000 in
theorem lifted (os : Os) (started : os.Started) (H : Type) (enc : TypeId × Value → H) :
    ReturnsInHanded {} Try.checked os 5 .any (Rows.cellAgainSpec.pre6 enc Try.prog Try.f5 Rows.cellAgainRow.domain false) (Rows.cellAgainSpec.post enc Try.prog Try.f5 false true false false) :=
  law_ok (C := Try.checked) tab_good own laidOut started (by kernel_rfl) Try.func5
    (ChangeSpec.witness6 (enc := enc) (C := Try.checked) false ⟨#[], #[.agg #[.int .u64 0, .int .i64 0], .agg #[.int .i64 0, .int .u64 0, .int .u64 0], .agg #[.int .i64 0, .int .u64 0, .int .u64 0]], []⟩ 30 (by kernel_rfl) (by kernel_rfl) (by kernel_rfl) (by kernel_rfl))
    rfl (fun ds h => match ds, h with | [d1, d2, d3], _ => rfl) (tb := 4) rfl Try.underlying4 (by kernel_rfl) (A := s5.A) (sh := s5.shape) (by kernel_rfl) ok again_law
theorem over : Rows.cellAgainRow.holds Try.pinned (OpenSpec.ofChange Rows.cellAgainSpec) :=
  OpenClaim.holds_of_wide 5 Try.f5 rfl rfl rfl rfl rfl rfl rfl ⟨rfl, rfl, rfl, rfl, rfl⟩ rfl rfl rfl rfl rfl (by kernel_rfl) Try.func5 (by kernel_rfl)
    (of_decide_eq_true (by kernel_rfl)) (by unfold Func.isWrapper; first | (rw [if_pos (by decide +kernel)]; kernel_rfl) | (rw [if_neg (by decide +kernel)]; exact ⟨rfl, rfl⟩))
    (fun os started H enc _ => lifted os started H enc)
theorem proved : Rows.CellAgainSaid := over
end Go.Proofs.Ytndkmekphalimaa.cellAgain
namespace Go.Proofs.Ytndkmekphalimaa
/-- The row, under a short name, for the claim. -/
theorem cellAgain_holds : Rows.CellAgainSaid := cellAgain.proved
#print axioms cellAgain_holds
end Go.Proofs.Ytndkmekphalimaa
