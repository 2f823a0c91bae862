/- The statement SessionOrder over plain values: the walk shows that the answer is true whatever came in. -/
import Derived.Test.YtehbjcmlicnklaaPx35
namespace Go.Proofs.Ytehbjcmlicnklaa.Pure
open Go.RowKit Go.Proofs.Ytehbjcmlicnklaa.P Go.Proofs.YtehbjcmlicnklaaW.PrintWords Go.Proofs.YtehbjcmlicnklaaW.PrintLast

/- YOURS: ∀ (l0_0 : List (S45)) (a1_0 : Int) (a1_1 : Int) (a1_2 : Int) (l1_3 : List Int) (a2_0 : Int) (a2_1 : Int) (a2_2 : Int) (l2_3 : List Int), (l0_0.length ≤ maxLen) → (l0_0.length * 48 ≤ 140737488351232) → (∀ y0_ ∈ l0_0, (Lit.int .i64 y0_.f0).wf = true ∧ (Lit.int .u64 y0_.f1).wf = true ∧ (Lit.int .i64 y0_.f2.f0).wf = true ∧ y0_.f2.f1.length ≤ maxLen ∧ y0_.f2.f1.length * 4 ≤ 140737488351232 ∧ (∀ y1_ ∈ y0_.f2.f1, (Lit.int .u32 y1_).wf = true)) → ((Lit.int .i64 a1_0).wf = true) → ((Lit.int .u64 a1_1).wf = true) → ((Lit.int .i64 a1_2).wf = true) → (l1_3.length ≤ maxLen) → (l1_3.length * 4 ≤ 140737488351232) → (∀ y0_ ∈ l1_3, (Lit.int .u32 y0_).wf = true) → ((Lit.int .i64 a2_0).wf = true) → ((Lit.int .u64 a2_1).wf = true) → ((Lit.int .i64 a2_2).wf = true) → (l2_3.length ≤ maxLen) → (l2_3.length * 4 ≤ 140737488351232) → (∀ y0_ ∈ l2_3, (Lit.int .u32 y0_).wf = true) → curfewlaw12_SessionOrder.f l0_0 a1_0 a1_1 a1_2 l1_3 a2_0 a2_1 a2_2 l2_3 = some true -/
theorem SessionOrder : curfewlaw12_SessionOrder.Pure := by
  unfold curfewlaw12_SessionOrder.Pure
  intros
  rfl

end Go.Proofs.Ytehbjcmlicnklaa.Pure
