/- ChunkAgain of chapter 23: the law's function answers true whatever comes in, and what came in reads as it did. Its code is reckoned by the executor of the texts V; its plain function is shown to be true always. No conditions. -/
import Derived.Test.YthlmfoonnhcmpaaRows
import Derived.Test.YthlmfoonnhcmpaaS3
import Derived.WalkKit
import Derived.ProofKit
import Derived.OpenShut
import Derived.SizedLaws
namespace Go.Proofs.Ythlmfoonnhcmpaa.chunkAgain
open Go.ChangeShapes Go.WideShapes Go.RowKit Go.V Go.V23
set_option maxRecDepth 100000
theorem own : ownKnob Try.prog.godebug = none := by kernel_rfl
theorem laidOut : laidOutB Try.prog = true := by kernel_rfl
theorem ok : FnOk Try.prog 7 (lawSpec s7.A s7.shape f7) := ok7
set_option maxHeartbeats 2000000 in
theorem lifted (os : Os) (started : os.Started) (H : Type) (enc : TypeId × Value → H) :
    ReturnsInHanded {} Try.checked os 7 .any (Rows.chunkAgainSpec.pre6 enc Try.prog Try.f7 Rows.chunkAgainRow.domain false) (Rows.chunkAgainSpec.post enc Try.prog Try.f7 false true false false) :=
  law_ok (C := Try.checked) tab_good own laidOut started (by kernel_rfl) Try.func7
    (ChangeSpec.witness6 (enc := enc) (C := Try.checked) false ⟨#[], #[.slice none 0 0], []⟩ 30 (by kernel_rfl) (by kernel_rfl) (by kernel_rfl) (by kernel_rfl))
    rfl (fun ds h => match ds, h with | [d1], _ => rfl) (tb := 4) rfl Try.underlying4 (by kernel_rfl) (A := s7.A) (sh := s7.shape) (by kernel_rfl) ok again_law
theorem over : Rows.chunkAgainRow.holds Try.pinned (OpenSpec.ofChange Rows.chunkAgainSpec) :=
  OpenClaim.holds_of_wide 7 Try.f7 rfl rfl rfl rfl rfl rfl rfl ⟨rfl, rfl, rfl, rfl, rfl⟩ rfl rfl rfl rfl rfl (by kernel_rfl) Try.func7 (by kernel_rfl)
    (of_decide_eq_true (by kernel_rfl)) (by unfold Func.isWrapper; first | (rw [if_pos (by decide +kernel)]; kernel_rfl) | (rw [if_neg (by decide +kernel)]; exact ⟨rfl, rfl⟩))
    (fun os started H enc _ => lifted os started H enc)
theorem proved : Rows.ChunkAgainSaid := over
end Go.Proofs.Ythlmfoonnhcmpaa.chunkAgain
namespace Go.Proofs.Ythlmfoonnhcmpaa
/-- The row, under a short name, for the claim. -/
theorem chunkAgain_holds : Rows.ChunkAgainSaid := chunkAgain.proved
#print axioms chunkAgain_holds
end Go.Proofs.Ythlmfoonnhcmpaa
