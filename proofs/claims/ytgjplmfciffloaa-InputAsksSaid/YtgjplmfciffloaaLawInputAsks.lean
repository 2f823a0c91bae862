/- InputAsks of chapter 15: the law's function answers true whatever comes in, and what came in reads as it did. Its code is reckoned by the executor of the texts V; its plain function is shown to be true always. No conditions. -/
import Derived.Test.YtgjplmfciffloaaRows
import Derived.Test.YtgjplmfciffloaaS4
import Derived.WalkKit
import Derived.ProofKit
import Derived.OpenShut
import Derived.SizedLaws
namespace Go.Proofs.Ytgjplmfciffloaa.inputAsks
open Go.ChangeShapes Go.WideShapes Go.RowKit Go.V Go.V15
set_option maxRecDepth 100000
theorem own : ownKnob Try.prog.godebug = none := by kernel_rfl
theorem laidOut : laidOutB Try.prog = true := by kernel_rfl
theorem ok : FnOk Try.prog 3 (lawSpec s3.A s3.shape f3) := ok3
set_option maxHeartbeats 2000000 in
theorem lifted (os : Os) (started : os.Started) (H : Type) (enc : TypeId × Value → H) :
    ReturnsInHanded {} Try.checked os 3 .any (Rows.inputAsksSpec.pre6 enc Try.prog Try.f3 Rows.inputAsksRow.domain false) (Rows.inputAsksSpec.post enc Try.prog Try.f3 false true false false) :=
  law_ok (C := Try.checked) tab_good own laidOut started (by kernel_rfl) Try.func3
    (ChangeSpec.witness6 (enc := enc) (C := Try.checked) false ⟨#[], #[.slice none 0 0, .slice none 0 0], []⟩ 30 (by kernel_rfl) (by kernel_rfl) (by kernel_rfl) (by kernel_rfl))
    rfl (fun ds h => match ds, h with | [d1, d2], _ => rfl) (tb := 4) rfl Try.underlying4 (by kernel_rfl) (A := s3.A) (sh := s3.shape) (by kernel_rfl) ok asks_law
theorem over : Rows.inputAsksRow.holds Try.pinned (OpenSpec.ofChange Rows.inputAsksSpec) :=
  OpenClaim.holds_of_wide 3 Try.f3 rfl rfl rfl rfl rfl rfl rfl ⟨rfl, rfl, rfl, rfl, rfl⟩ rfl rfl rfl rfl rfl (by kernel_rfl) Try.func3 (by kernel_rfl)
    (of_decide_eq_true (by kernel_rfl)) (by unfold Func.isWrapper; first | (rw [if_pos (by decide +kernel)]; kernel_rfl) | (rw [if_neg (by decide +kernel)]; exact ⟨rfl, rfl⟩))
    (fun os started H enc _ => lifted os started H enc)
theorem proved : Rows.InputAsksSaid := over
end Go.Proofs.Ytgjplmfciffloaa.inputAsks
namespace Go.Proofs.Ytgjplmfciffloaa
/-- The row, under a short name, for the claim. -/
theorem inputAsks_holds : Rows.InputAsksSaid := inputAsks.proved
#print axioms inputAsks_holds
end Go.Proofs.Ytgjplmfciffloaa
