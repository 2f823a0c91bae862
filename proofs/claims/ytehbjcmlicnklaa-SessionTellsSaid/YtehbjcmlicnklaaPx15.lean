-- written for this claim by a patched copy of the kit's printer (tools/pp.py of the same repo) out of the translation; Lean checks it
import Derived.Test.YtehbjcmlicnklaaPx0
import Derived.Test.YtehbjcmlicnklaaPx12
import Derived.Test.YtehbjcmlicnklaaPx13
import Derived.Test.YtehbjcmlicnklaaPx14
namespace Go.Proofs.Ytehbjcmlicnklaa.P
open Go.RowKit Go.Proofs.YtehbjcmlicnklaaW.PrintWords Go.Proofs.YtehbjcmlicnklaaW.PrintLast Go.Proofs.YtehbjcmlicnklaaW.PrintMore
attribute [local go_sem] max2_int min2_int max_two min_two max_three min_three max_four min_four   -- for this text's walks alone
set_option linter.unusedVariables false
set_option linter.unusedSimpArgs false

/-! ### curfewlaw12_wakes: function 7 (proved by hand) -/
open Go.Proofs.Ytehbjcmlicnklaa.Hand
attribute [local irreducible] wpStill

theorem keep_a : session_Keep.f [] 2 1 6 [] = some ([(⟨2, 1, ⟨6, []⟩⟩ : S45)], 0) := rfl
theorem keep_b : session_Keep.f [(⟨2, 1, ⟨6, []⟩⟩ : S45)] 2 1 0 [] = some ([], 221) := rfl
theorem judge_a : ∃ k, session_Judge.f k [(⟨2, 1, ⟨6, []⟩⟩ : S45)] 2 1 = some (2, 0) := Ev.rounds (judge_ev [(⟨2, 1, ⟨6, []⟩⟩ : S45)] 2 1 (by decide) (by simp))
theorem judge_b : ∃ k, session_Judge.f k [(⟨2, 1, ⟨6, []⟩⟩ : S45)] 2 2 = some (1, 0) := Ev.rounds (judge_ev [(⟨2, 1, ⟨6, []⟩⟩ : S45)] 2 2 (by decide) (by simp))
theorem of_a : session_Of.f [(⟨2, 1, ⟨6, []⟩⟩ : S45)] 2 = some (2, 1, 6, []) := by decide
set_option maxHeartbeats 4000000 in
set_option maxRecDepth 100000 in
theorem wakes_any (w : World) : Calls Try.prog 7 #[] w fun e w' => e = .returned (.bool true) ∧ Below w.heap.size w w' := by
  have HB0 := Below.refl w.heap.size w
  obtain ⟨ka, hja⟩ := judge_a
  obtain ⟨kb, hjb⟩ := judge_b
  have HJA := Lib.hid hja
  have HJB := Lib.hid hjb
  clear hja hjb
  go_enter Try.func7, Try.ntmps7
  go_wp2_with fail
  refine (session_Keep.calls none 0 [] 2 1 6 none 0 [] _ _ _ (Kd.C_nil _ _) (Nat.le_refl _) (Kd.C_nil _ _) (Nat.le_refl _) keep_a).mono ?_
  rintro e w1 ⟨v, rfl, hS, hB1⟩
  obtain ⟨A1, c1, eq⟩ := Kd.S_slice hS
  subst eq
  obtain ⟨-, hl1, hr1⟩ := Kd.S_reads' hS
  go_wp2_with fail
  refine (session_Judge.calls ka A1 c1 [(⟨2, 1, ⟨6, []⟩⟩ : S45)] 2 1 2 0 _ (Kd.C_alloc hr1 _) hl1 HJA.out).mono ?_
  rintro e w2 ⟨rfl, hB2⟩
  have hb2 : Below w.heap.size w w2 := below_step (by repeat (with_reducible first | exact hB1 | refine below_alloc ?_ _ | refine below_drew1 ?_)) hB2
  have k2 : w2.cell? ⟨w1.heap.size, 0, none⟩ = some (.slice A1 1 c1) := keepc hB2 (by go_simp)
  have z2 := block_lt_of_cell k2
  go_wp2_with fail
  refine (session_Judge.calls kb A1 c1 [(⟨2, 1, ⟨6, []⟩⟩ : S45)] 2 2 1 0 _ (Kd.C_below (Kd.C_alloc hr1 _) hB2) hl1 HJB.out).mono ?_
  rintro e w3 ⟨rfl, hB3⟩
  have hb3 := below_step hb2 hB3
  have k3 := keepc hB3 k2
  have z3 := block_lt_of_cell k3
  go_wp2_with fail
  refine (session_Keep.calls A1 c1 [(⟨2, 1, ⟨6, []⟩⟩ : S45)] 2 1 0 none 0 [] _ _ _ (Kd.C_below (Kd.C_below (Kd.C_alloc hr1 _) hB2) hB3) hl1 (Kd.C_nil _ _) (Nat.le_refl _) keep_b).mono ?_
  rintro e w4 ⟨v, rfl, hS4, hB4⟩
  obtain ⟨A4, c4, eq⟩ := Kd.S_slice hS4
  subst eq
  have hb4 := below_step hb3 hB4
  have k4 := keepc hB4 k3
  have z4 := block_lt_of_cell k4
  dsimp only at z2 z3 z4
  go_wp2_with fail
  refine (session_Of.calls A1 c1 [(⟨2, 1, ⟨6, []⟩⟩ : S45)] 2 _ _ _ _ _ (Kd.C_alloc (Kd.C_below (Kd.C_below (Kd.C_below (Kd.C_alloc hr1 _) hB2) hB3) hB4) _) hl1 of_a).mono ?_
  rintro e w5 ⟨v, rfl, hR5, hB5⟩
  obtain ⟨A5, c5, eq⟩ := Kd.R_slice hR5
  subst eq
  have hb5 : Below w.heap.size w w5 := below_step (by repeat (with_reducible first | exact hb4 | refine below_alloc ?_ _ | refine below_drew1 ?_)) hB5
  have hfield_ : ∀ (a b d : Int) (u : Value) (W : World), (Instr.field 45 (.agg #[.int .i64 a, .int .u64 b, .int .i64 d, u]) 2).run Try.prog W = .ok (.agg #[.int .i64 d, u]) W := fun _ _ _ _ _ => rfl
  have hfield2_ : ∀ (d : Int) (u : Value) (W : World), (Instr.field 32 (.agg #[.int .i64 d, u]) 0).run Try.prog W = .ok (.int .i64 d) W := fun _ _ _ => rfl
  go_wp2
  go_ret
  exact ⟨rfl, by repeat (with_reducible first | exact hb5 | refine below_alloc ?_ _ | refine below_drew1 ?_ | refine Below.setCell ?_ (by first | (simp; done) | (simp; omega)) _)⟩

def curfewlaw12_wakes.f  : Option (Bool) := some true
set_option maxHeartbeats 4000000 in
set_option maxRecDepth 100000 in
theorem curfewlaw12_wakes.calls  (r : Bool) (w : World) (h : curfewlaw12_wakes.f  = some r) :
    Calls Try.prog 7 #[] w fun e w' => e = .returned (.bool r) ∧ Below w.heap.size w w' := by
  have h : some true = some r := h
  obtain rfl := Option.some.inj h
  exact (wakes_any w).mono fun e w' ⟨he, hB⟩ => ⟨he, hB⟩


end Go.Proofs.Ytehbjcmlicnklaa.P
