/- The law CellRefuses: asked is the cell for every cell and plea as the document says. No condition beyond the arguments' own kinds. -/
import Derived.Test.YtndkmekphalimaaPx14
namespace Go.Proofs.Ytndkmekphalimaa.Pure
open Go.RowKit Go.Proofs.Ytndkmekphalimaa.P Go.Proofs.YtndkmekphalimaaW.PrintWords Go.Proofs.YtndkmekphalimaaW.PrintLast

theorem wakes_true : curfewlaw21_wakes.f = some true := by rfl

theorem right_eq (e h : Int) : curfewref21_Right.f e h = some (decide (1 ≤ e ∧ e ≤ 1099511627776 ∧ 1 ≤ h ∧ h ≤ 2)) := by
  unfold curfewref21_Right.f
  repeat' split
  all_goals (simp only [Option.some.injEq]; rw [Bool.eq_iff_iff]; simp only [decide_eq_true_eq, beq_iff_eq]; first | omega | (simp; omega))

theorem rightPlea_eq (n pe b : Int) : curfewref21_RightPlea.f n pe b = some (decide (1 ≤ n ∧ n ≤ 2 ∧ 1 ≤ pe ∧ pe ≤ 1099511627776 ∧ b ≤ 1099511627776)) := by
  unfold curfewref21_RightPlea.f
  repeat' split
  all_goals (simp only [Option.some.injEq]; rw [Bool.eq_iff_iff]; simp only [decide_eq_true_eq]; first | omega | (simp; omega))

theorem wrap_u64 {x : Int} (h0 : 0 ≤ x) (h1 : x < 18446744073709551616) : IntKind.u64.wrap x = x := by
  simp only [IntKind.wrap, IntKind.bits, IntKind.signed]
  simp
  omega

/-- The document's answer, at a cell and a plea that may be. -/
theorem refAsk_eq (e h n pe b : Int) (c1 : 1 ≤ e ∧ e ≤ 1099511627776 ∧ 1 ≤ h ∧ h ≤ 2) (c2 : 1 ≤ n ∧ n ≤ 2 ∧ 1 ≤ pe ∧ pe ≤ 1099511627776 ∧ b ≤ 1099511627776) :
    ∃ g x y, curfewref21_Ask.f e h n pe b = some (n, pe, b, g, x, y) ∧ cell_Ask.f e h n pe b = some (x, y, n, pe, b, g, x, y, 0) := by
  have w1 : IntKind.u64.wrap (e + 1) = e + 1 := wrap_u64 (by omega) (by omega)
  have w2 : IntKind.u64.wrap (pe + 1) = pe + 1 := wrap_u64 (by omega) (by omega)
  unfold curfewref21_Ask.f cell_Ask.f askF
  rw [if_pos c1, if_pos c2, w1, w2]
  have z1 : ∀ x : Int, ¬ x + 1 = x := fun x => by omega
  have z2 : ∀ x : Int, ¬ x = x + 1 := fun x => by omega
  by_cases d1 : pe = e
  · subst d1
    by_cases d2 : pe < 1099511627776
    · exact ⟨true, pe + 1, n, by simp [d2], by simp [d2]⟩
    · exact ⟨false, pe, h, by simp [d2, z1], by simp [d2, z2]⟩
  · have d1' : ¬ e = pe := fun z => d1 z.symm
    by_cases d3 : pe + 1 = e
    · subst d3
      by_cases d4 : n = h
      · subst d4
        exact ⟨true, pe + 1, n, by simp [z2], by simp [z1]⟩
      · have d4' : ¬ h = n := fun z => d4 z.symm
        exact ⟨false, pe + 1, h, by simp [d4, z2], by simp [d4', z1]⟩
    · have d3' : ¬ e = pe + 1 := fun z => d3 z.symm
      exact ⟨false, e, h, by simp [d1, d3], by simp [d1', d3']⟩

theorem CellRefuses : curfewlaw21_CellRefuses.Pure := by
  intro e h n pe b _ _ _ _ _
  unfold curfewlaw21_CellRefuses.f
  rw [wakes_true]
  simp only [Option.bind_some, if_true]
  rw [right_eq]
  by_cases c1 : 1 ≤ e ∧ e ≤ 1099511627776 ∧ 1 ≤ h ∧ h ≤ 2
  · by_cases c2 : 1 ≤ n ∧ n ≤ 2 ∧ 1 ≤ pe ∧ pe ≤ 1099511627776 ∧ b ≤ 1099511627776
    · obtain ⟨g, x, y, h1, h2⟩ := refAsk_eq e h n pe b c1 c2
      rw [h1, h2, rightPlea_eq]
      simp [c1, c2]
    · have h2 : cell_Ask.f e h n pe b = some (0, 0, 0, 0, 0, false, 0, 0, 2) := by unfold cell_Ask.f askF; rw [if_pos c1, if_neg c2]
      rw [h2, rightPlea_eq]
      simp only [Option.bind_some, decide_eq_true c1, decide_eq_false c2]
      simp
  · have h2 : cell_Ask.f e h n pe b = some (0, 0, 0, 0, 0, false, 0, 0, 310) := by unfold cell_Ask.f askF; rw [if_neg c1]
    rw [h2]
    simp only [Option.bind_some, decide_eq_false c1]
    simp

end Go.Proofs.Ytndkmekphalimaa.Pure
