/- ChunkTurned of chapter 23: the law's function answers true whatever comes in, and what came in reads as it did. Its code is reckoned by the executor of the texts V; its plain function is shown to be true always. No conditions. -/
import Derived.Test.YthlmfoonnhcmpaaRows
import Derived.Test.YthlmfoonnhcmpaaS3
import Derived.WalkKit
import Derived.ProofKit
import Derived.OpenShut
import Derived.SizedLaws
namespace Go.Proofs.Ythlmfoonnhcmpaa.chunkTurned
open Go.ChangeShapes Go.WideShapes Go.RowKit Go.V Go.V23
set_option maxRecDepth 100000
theorem own : ownKnob Try.prog.godebug = none := by kernel_rfl
theorem laidOut : laidOutB Try.prog = true := by kernel_rfl
theorem ok : FnOk Try.prog 4 (lawSpec s4.A s4.shape f4) := ok4
set_option maxHeartbeats 2000000 in
theorem lifted (os : Os) (started : os.Started) (H : Type) (enc : TypeId × Value → H) :
    ReturnsInHanded {} Try.checked os 4 .any (Rows.chunkTurnedSpec.pre6 enc Try.prog Try.f4 Rows.chunkTurnedRow.domain false) (Rows.chunkTurnedSpec.post enc Try.prog Try.f4 false true false false) :=
  law_ok (C := Try.checked) tab_good own laidOut started (by kernel_rfl) Try.func4
    (ChangeSpec.witness6 (enc := enc) (C := Try.checked) false ⟨#[], #[.slice none 0 0, .int .i64 0, .int .u8 0], []⟩ 30 (by kernel_rfl) (by kernel_rfl) (by kernel_rfl) (by kernel_rfl))
    rfl (fun ds h => match ds, h with | [d1, d2, d3], _ => rfl) (tb := 4) rfl Try.underlying4 (by kernel_rfl) (A := s4.A) (sh := s4.shape) (by kernel_rfl) ok chunk_turned_law
theorem over : Rows.chunkTurnedRow.holds Try.pinned (OpenSpec.ofChange Rows.chunkTurnedSpec) :=
  OpenClaim.holds_of_wide 4 Try.f4 rfl rfl rfl rfl rfl rfl rfl ⟨rfl, rfl, rfl, rfl, rfl⟩ rfl rfl rfl rfl rfl (by kernel_rfl) Try.func4 (by kernel_rfl)
    (of_decide_eq_true (by kernel_rfl)) (by unfold Func.isWrapper; first | (rw [if_pos (by decide +kernel)]; kernel_rfl) | (rw [if_neg (by decide +kernel)]; exact ⟨rfl, rfl⟩))
    (fun os started H enc _ => lifted os started H enc)
theorem proved : Rows.ChunkTurnedSaid := over
end Go.Proofs.Ythlmfoonnhcmpaa.chunkTurned
namespace Go.Proofs.Ythlmfoonnhcmpaa
/-- The row, under a short name, for the claim. -/
theorem chunkTurned_holds : Rows.ChunkTurnedSaid := chunkTurned.proved
#print axioms chunkTurned_holds
end Go.Proofs.Ythlmfoonnhcmpaa
