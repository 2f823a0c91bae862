/- InputAgain of chapter 15: the law's function answers true whatever comes in, and what came in reads as it did. Its code is reckoned by the executor of the texts V; its plain function is shown to be true always. No conditions. -/
import Derived.Test.YtgjplmfciffloaaRows
import Derived.Test.YtgjplmfciffloaaS4
import Derived.WalkKit
import Derived.ProofKit
import Derived.OpenShut
import Derived.SizedLaws
namespace Go.Proofs.Ytgjplmfciffloaa.inputAgain
open Go.ChangeShapes Go.WideShapes Go.RowKit Go.V Go.V15
set_option maxRecDepth 100000
theorem own : ownKnob Try.prog.godebug = none := by kernel_rfl
theorem laidOut : laidOutB Try.prog = true := by kernel_rfl
theorem ok : FnOk Try.prog 8 (lawSpec s8.A s8.shape f8) := ok8
set_option maxHeartbeats 2000000 in
theorem lifted (os : Os) (started : os.Started) (H : Type) (enc : TypeId × Value → H) :
    ReturnsInHanded {} Try.checked os 8 .any (Rows.inputAgainSpec.pre6 enc Try.prog Try.f8 Rows.inputAgainRow.domain false) (Rows.inputAgainSpec.post enc Try.prog Try.f8 false true false false) :=
  law_ok (C := Try.checked) tab_good own laidOut started (by kernel_rfl) Try.func8
    (ChangeSpec.witness6 (enc := enc) (C := Try.checked) false ⟨#[], #[.slice none 0 0], []⟩ 30 (by kernel_rfl) (by kernel_rfl) (by kernel_rfl) (by kernel_rfl))
    rfl (fun ds h => match ds, h with | [d1], _ => rfl) (tb := 4) rfl Try.underlying4 (by kernel_rfl) (A := s8.A) (sh := s8.shape) (by kernel_rfl) ok again_law
theorem over : Rows.inputAgainRow.holds Try.pinned (OpenSpec.ofChange Rows.inputAgainSpec) :=
  OpenClaim.holds_of_wide 8 Try.f8 rfl rfl rfl rfl rfl rfl rfl ⟨rfl, rfl, rfl, rfl, rfl⟩ rfl rfl rfl rfl rfl (by kernel_rfl) Try.func8 (by kernel_rfl)
    (of_decide_eq_true (by kernel_rfl)) (by unfold Func.isWrapper; first | (rw [if_pos (by decide +kernel)]; kernel_rfl) | (rw [if_neg (by decide +kernel)]; exact ⟨rfl, rfl⟩))
    (fun os started H enc _ => lifted os started H enc)
theorem proved : Rows.InputAgainSaid := over
end Go.Proofs.Ytgjplmfciffloaa.inputAgain
namespace Go.Proofs.Ytgjplmfciffloaa
/-- The row, under a short name, for the claim. -/
theorem inputAgain_holds : Rows.InputAgainSaid := inputAgain.proved
#print axioms inputAgain_holds
end Go.Proofs.Ytgjplmfciffloaa
