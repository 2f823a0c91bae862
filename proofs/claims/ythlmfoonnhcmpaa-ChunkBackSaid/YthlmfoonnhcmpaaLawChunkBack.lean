/- ChunkBack of chapter 23: the law's function answers true whatever comes in, and what came in reads as it did. Its code is reckoned by the executor of the texts V; its plain function is shown to be true always. No conditions. -/
import Derived.Test.YthlmfoonnhcmpaaRows
import Derived.Test.YthlmfoonnhcmpaaS3
import Derived.WalkKit
import Derived.ProofKit
import Derived.OpenShut
import Derived.SizedLaws
namespace Go.Proofs.Ythlmfoonnhcmpaa.chunkBack
open Go.ChangeShapes Go.WideShapes Go.RowKit Go.V Go.V23
set_option maxRecDepth 100000
theorem own : ownKnob Try.prog.godebug = none := by kernel_rfl
theorem laidOut : laidOutB Try.prog = true := by kernel_rfl
theorem ok : FnOk Try.prog 6 (lawSpec s6.A s6.shape f6) := ok6
set_option maxHeartbeats 2000000 in
theorem lifted (os : Os) (started : os.Started) (H : Type) (enc : TypeId × Value → H) :
    ReturnsInHanded {} Try.checked os 6 .any (Rows.chunkBackSpec.pre6 enc Try.prog Try.f6 Rows.chunkBackRow.domain false) (Rows.chunkBackSpec.post enc Try.prog Try.f6 false true false false) :=
  law_ok (C := Try.checked) tab_good own laidOut started (by kernel_rfl) Try.func6
    (ChangeSpec.witness6 (enc := enc) (C := Try.checked) false ⟨#[], #[.slice none 0 0], []⟩ 30 (by kernel_rfl) (by kernel_rfl) (by kernel_rfl) (by kernel_rfl))
    rfl (fun ds h => match ds, h with | [d1], _ => rfl) (tb := 4) rfl Try.underlying4 (by kernel_rfl) (A := s6.A) (sh := s6.shape) (by kernel_rfl) ok chunk_back_law
theorem over : Rows.chunkBackRow.holds Try.pinned (OpenSpec.ofChange Rows.chunkBackSpec) :=
  OpenClaim.holds_of_wide 6 Try.f6 rfl rfl rfl rfl rfl rfl rfl ⟨rfl, rfl, rfl, rfl, rfl⟩ rfl rfl rfl rfl rfl (by kernel_rfl) Try.func6 (by kernel_rfl)
    (of_decide_eq_true (by kernel_rfl)) (by unfold Func.isWrapper; first | (rw [if_pos (by decide +kernel)]; kernel_rfl) | (rw [if_neg (by decide +kernel)]; exact ⟨rfl, rfl⟩))
    (fun os started H enc _ => lifted os started H enc)
theorem proved : Rows.ChunkBackSaid := over
end Go.Proofs.Ythlmfoonnhcmpaa.chunkBack
namespace Go.Proofs.Ythlmfoonnhcmpaa
/-- The row, under a short name, for the claim. -/
theorem chunkBack_holds : Rows.ChunkBackSaid := chunkBack.proved
#print axioms chunkBack_holds
end Go.Proofs.Ythlmfoonnhcmpaa
