/- The statement SessionTells over plain values: the walk shows that the answer is true wherever the names are names. -/
import Derived.Test.YtehbjcmlicnklaaPx29
namespace Go.Proofs.Ytehbjcmlicnklaa.Pure
open Go.RowKit Go.Proofs.Ytehbjcmlicnklaa.P Go.Proofs.YtehbjcmlicnklaaW.PrintWords Go.Proofs.YtehbjcmlicnklaaW.PrintLast

theorem nonneg_u32 {n : Int} (h : (Lit.int .u32 n).wf = true) : 0 ≤ n := by
  simp [Lit.wf, IntKind.min, IntKind.max, IntKind.signed, IntKind.bits] at h; omega
theorem SessionTells : curfewlaw12_SessionTells.Pure := by
  unfold curfewlaw12_SessionTells.Pure
  intro l0 l1 l2 h1 h2 h3 h4 h5 h6 h7 h8 h9
  show (if l2.length ≤ 9223372036854775806 ∧ (∀ x ∈ l0, ∀ n ∈ x.f2.f1, 0 ≤ n) ∧ (∀ x ∈ l2, ∀ n ∈ x.f2.f1, 0 ≤ n) then some true else none) = some true
  rw [if_pos]
  refine ⟨by unfold maxLen at h7; omega, fun x hx n hn => nonneg_u32 ((h3 x hx).2.2.2.2.2 n hn), fun x hx n hn => nonneg_u32 ((h9 x hx).2.2.2.2.2 n hn)⟩

end Go.Proofs.Ytehbjcmlicnklaa.Pure
