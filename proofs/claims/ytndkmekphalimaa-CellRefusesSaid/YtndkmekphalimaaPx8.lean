-- written for this claim by a patched copy of the kit's printer (tools/pp.py of the same repo) out of the translation; Lean checks it
import Derived.Test.YtndkmekphalimaaPx0
namespace Go.Proofs.Ytndkmekphalimaa.P
open Go.RowKit Go.Proofs.YtndkmekphalimaaW.PrintWords Go.Proofs.YtndkmekphalimaaW.PrintLast Go.Proofs.YtndkmekphalimaaW.PrintMore
attribute [local go_sem] max2_int min2_int max_two min_two max_three min_three max_four min_four   -- for this text's walks alone
set_option linter.unusedVariables false
set_option linter.unusedSimpArgs false

/-! ### cell_Ask: function 8 (proved by hand) -/
/-- What an asking comes to. -/
def askF (e h n pe b : Int) : Option (Int × Int × Int × Int × Int × Bool × Int × Int × Int) :=
  if 1 ≤ e ∧ e ≤ 1099511627776 ∧ 1 ≤ h ∧ h ≤ 2 then
    if 1 ≤ n ∧ n ≤ 2 ∧ 1 ≤ pe ∧ pe ≤ 1099511627776 ∧ b ≤ 1099511627776 then
      if e = pe ∧ pe < 1099511627776 then some (e + 1, n, n, pe, b, true, e + 1, n, 0)
      else if e = pe + 1 ∧ h = n then some (e, h, n, pe, b, true, e, h, 0)
      else some (e, h, n, pe, b, false, e, h, 0)
    else some (0, 0, 0, 0, 0, false, 0, 0, 2)
  else some (0, 0, 0, 0, 0, false, 0, 0, 310)
def cell_Ask.f (a0_0 : Int) (a0_1 : Int) (a1_0 : Int) (a1_1 : Int) (a1_2 : Int) : Option (Int × Int × Int × Int × Int × Bool × Int × Int × Int) := askF a0_0 a0_1 a1_0 a1_1 a1_2

theorem ta_gg (n : Int) (W : World) : (Instr.typeAssert (.iface 61 (.agg #[.int .i64 n])) 57 61 true).run Try.prog W = .ok (.tuple #[.agg #[.int .i64 n], .bool true]) W := by kernel_rfl
theorem ta_gh (n : Int) (W : World) : (Instr.typeAssert (.iface 61 (.agg #[.int .i64 n])) 57 63 true).run Try.prog W = .ok (.tuple #[.agg #[], .bool false]) W := by kernel_rfl
theorem ta_hg (W : World) : (Instr.typeAssert (.iface 63 (.agg #[])) 57 61 true).run Try.prog W = .ok (.tuple #[.agg #[.int .i64 0], .bool false]) W := by kernel_rfl
theorem ta_hh (W : World) : (Instr.typeAssert (.iface 63 (.agg #[])) 57 63 true).run Try.prog W = .ok (.tuple #[.agg #[], .bool true]) W := by kernel_rfl
theorem ta_rg (W : World) : (Instr.typeAssert (.iface 69 (.agg #[])) 57 61 true).run Try.prog W = .ok (.tuple #[.agg #[.int .i64 0], .bool false]) W := by kernel_rfl
theorem ta_rh (W : World) : (Instr.typeAssert (.iface 69 (.agg #[])) 57 63 true).run Try.prog W = .ok (.tuple #[.agg #[], .bool false]) W := by kernel_rfl
theorem m42 (n : Int) (W : World) : (method 188 61 (.agg #[.int .i64 n]) "curfew/cell.behind").run Try.prog W = .ok (42, .agg #[.int .i64 n]) W := by kernel_rfl
theorem m43 (W : World) : (method 188 63 (.agg #[]) "curfew/cell.behind").run Try.prog W = .ok (43, .agg #[]) W := by kernel_rfl
theorem m44 (W : World) : (method 188 69 (.agg #[]) "curfew/cell.behind").run Try.prog W = .ok (44, .agg #[]) W := by kernel_rfl
set_option maxHeartbeats 400000 in
theorem b42 (e h n : Int) (w : World) (he : 0 ≤ e) (he2 : e ≤ 1099511627776) :
    Calls Try.prog 42 #[.agg #[.int .i64 n], .agg #[.int .u64 e, .int .i64 h]] w fun en w' => en = .returned (.agg #[.int .u64 (e + 1), .int .i64 n]) ∧
      w' = ((w.alloc (.cells #[.int .i64 n] 61)).alloc (.cells #[.int .u64 e, .int .i64 h] 24)).alloc (.cells #[.int .u64 (e + 1), .int .i64 n] 24) := by
  go_enter Try.func42, Try.ntmps42
  go_wp2
  exact bodyPost_ret (v := .agg #[.int .u64 (e + 1), .int .i64 n]) (by simp [results, Try.results42, go_sem]) rfl ⟨rfl, rfl⟩
set_option maxHeartbeats 400000 in
theorem b43 (e h : Int) (w : World) :
    Calls Try.prog 43 #[.agg #[], .agg #[.int .u64 e, .int .i64 h]] w fun en w' => en = .returned (.agg #[.int .u64 e, .int .i64 h]) ∧
      w' = ((w.alloc (.cells #[] 63)).alloc (.cells #[.int .u64 e, .int .i64 h] 24)).alloc (.cells #[.int .u64 e, .int .i64 h] 24) := by
  go_enter Try.func43, Try.ntmps43
  go_wp2
  exact bodyPost_ret (v := .agg #[.int .u64 e, .int .i64 h]) (by simp [results, Try.results43, go_sem]) rfl ⟨rfl, rfl⟩
set_option maxHeartbeats 400000 in
theorem b44 (e h : Int) (w : World) :
    Calls Try.prog 44 #[.agg #[], .agg #[.int .u64 e, .int .i64 h]] w fun en w' => en = .returned (.agg #[.int .u64 e, .int .i64 h]) ∧
      w' = ((w.alloc (.cells #[] 69)).alloc (.cells #[.int .u64 e, .int .i64 h] 24)).alloc (.cells #[.int .u64 e, .int .i64 h] 24) := by
  go_enter Try.func44, Try.ntmps44
  go_wp2
  exact bodyPost_ret (v := .agg #[.int .u64 e, .int .i64 h]) (by simp [results, Try.results44, go_sem]) rfl ⟨rfl, rfl⟩

set_option maxHeartbeats 4000000 in
set_option maxRecDepth 100000 in
theorem ask_granted (e h n b : Int) (w : World) (he : 1 ≤ e ∧ e < 1099511627776) (hh : 1 ≤ h) (hh2 : h ≤ 2) (hn : 1 ≤ n) (hn2 : n ≤ 2) (hb : b ≤ 1099511627776) :
    Calls Try.prog 8 #[.agg #[.int .u64 e, .int .i64 h], .agg #[.int .i64 n, .int .u64 e, .int .u64 b]] w fun en w' =>
      en = .returned (.tuple #[.agg #[.int .u64 (e + 1), .int .i64 n], .agg #[.int .i64 n, .int .u64 e, .int .u64 b, .bool true, .int .u64 (e + 1), .int .i64 n], .int .i64 0]) ∧ Below w.heap.size w w' := by
  have t1 : decide (h ≤ 2) = true := by simp [hh2]
  have t2 : decide (e + 1 ≤ 1099511627776) = true := by simp; omega
  have hm := m42 n
  have g1 := ta_gg n
  have g2 := ta_gh n
  go_enter Try.func8, Try.ntmps8
  go_wp2
  go_region_held3 (fun w' => w'.cell? ⟨w.heap.size, 0, none⟩ = some (.int .u64 e) ∧ w'.cell? ⟨w.heap.size, 1, none⟩ = some (.int .i64 h) ∧ w'.cell? ⟨w.heap.size + 1, 0, none⟩ = some (.int .i64 n) ∧ w'.cell? ⟨w.heap.size + 1, 1, none⟩ = some (.int .u64 e) ∧ w'.cell? ⟨w.heap.size + 1, 2, none⟩ = some (.int .u64 b)) ((refine ⟨?_, ?_, ?_, ?_, ?_⟩ <;> go_simp))
   ((go_at_call 42; refine (b42 _ _ _ _ (by omega) (by omega)).mono ?_; rintro en w1 ⟨rfl, rfl⟩))
  all_goals go_wp2
  all_goals go_region
  all_goals go_wp2
  all_goals refine bodyPost_ret (v := .tuple #[.agg #[.int .u64 (e + 1), .int .i64 n], .agg #[.int .i64 n, .int .u64 e, .int .u64 b, .bool true, .int .u64 (e + 1), .int .i64 n], .int .i64 0]) (by simp [results, Try.results8, go_sem]) rfl ⟨rfl, ?_⟩
  all_goals (repeat (first | exact Below.refl _ _ | refine below_drew ?_ | refine below_alloc ?_ _))

set_option maxHeartbeats 4000000 in
set_option maxRecDepth 100000 in
theorem ask_had (h b pe : Int) (w : World) (hpe : 1 ≤ pe ∧ pe + 1 ≤ 1099511627776) (hh : 1 ≤ h) (hh2 : h ≤ 2) (hb : b ≤ 1099511627776) :
    Calls Try.prog 8 #[.agg #[.int .u64 (pe + 1), .int .i64 h], .agg #[.int .i64 h, .int .u64 pe, .int .u64 b]] w fun en w' =>
      en = .returned (.tuple #[.agg #[.int .u64 (pe + 1), .int .i64 h], .agg #[.int .i64 h, .int .u64 pe, .int .u64 b, .bool true, .int .u64 (pe + 1), .int .i64 h], .int .i64 0]) ∧ Below w.heap.size w w' := by
  have t1 : decide (h ≤ 2) = true := by simp [hh2]
  have hm := m43
  have g1 := ta_hg
  have g2 := ta_hh
  have q1 : (pe + 1 == pe) = false := by simp; omega
  go_enter Try.func8, Try.ntmps8
  go_wp2
  go_region_held3 (fun w' => w'.cell? ⟨w.heap.size, 0, none⟩ = some (.int .u64 (pe + 1)) ∧ w'.cell? ⟨w.heap.size, 1, none⟩ = some (.int .i64 h) ∧ w'.cell? ⟨w.heap.size + 1, 0, none⟩ = some (.int .i64 h) ∧ w'.cell? ⟨w.heap.size + 1, 1, none⟩ = some (.int .u64 pe) ∧ w'.cell? ⟨w.heap.size + 1, 2, none⟩ = some (.int .u64 b)) ((refine ⟨?_, ?_, ?_, ?_, ?_⟩ <;> go_simp))
   ((go_at_call 43; refine (b43 _ _ _).mono ?_; rintro en w1 ⟨rfl, rfl⟩))
  all_goals go_wp2
  all_goals go_region
  all_goals go_wp2
  all_goals refine bodyPost_ret (v := .tuple #[.agg #[.int .u64 (pe + 1), .int .i64 h], .agg #[.int .i64 h, .int .u64 pe, .int .u64 b, .bool true, .int .u64 (pe + 1), .int .i64 h], .int .i64 0]) (by simp [results, Try.results8, go_sem]) rfl ⟨rfl, ?_⟩
  all_goals (repeat (first | exact Below.refl _ _ | refine below_drew ?_ | refine below_alloc ?_ _))

set_option maxHeartbeats 4000000 in
set_option maxRecDepth 100000 in
theorem ask_top (h n b : Int) (w : World) (hh : 1 ≤ h) (hh2 : h ≤ 2) (hn : 1 ≤ n) (hn2 : n ≤ 2) (hb : b ≤ 1099511627776) :
    Calls Try.prog 8 #[.agg #[.int .u64 1099511627776, .int .i64 h], .agg #[.int .i64 n, .int .u64 1099511627776, .int .u64 b]] w fun en w' =>
      en = .returned (.tuple #[.agg #[.int .u64 1099511627776, .int .i64 h], .agg #[.int .i64 n, .int .u64 1099511627776, .int .u64 b, .bool false, .int .u64 1099511627776, .int .i64 h], .int .i64 0]) ∧ Below w.heap.size w w' := by
  have t1 : decide (h ≤ 2) = true := by simp [hh2]
  have hm := m44
  have g1 := ta_rg
  have g2 := ta_rh
  go_enter Try.func8, Try.ntmps8
  go_wp2
  go_region_held3 (fun w' => w'.cell? ⟨w.heap.size, 0, none⟩ = some (.int .u64 1099511627776) ∧ w'.cell? ⟨w.heap.size, 1, none⟩ = some (.int .i64 h) ∧ w'.cell? ⟨w.heap.size + 1, 0, none⟩ = some (.int .i64 n) ∧ w'.cell? ⟨w.heap.size + 1, 1, none⟩ = some (.int .u64 1099511627776) ∧ w'.cell? ⟨w.heap.size + 1, 2, none⟩ = some (.int .u64 b)) ((refine ⟨?_, ?_, ?_, ?_, ?_⟩ <;> go_simp))
   ((go_at_call 44; refine (b44 _ _ _).mono ?_; rintro en w1 ⟨rfl, rfl⟩))
  all_goals go_wp2
  all_goals go_region
  all_goals go_wp2
  all_goals refine bodyPost_ret (v := .tuple #[.agg #[.int .u64 1099511627776, .int .i64 h], .agg #[.int .i64 n, .int .u64 1099511627776, .int .u64 b, .bool false, .int .u64 1099511627776, .int .i64 h], .int .i64 0]) (by simp [results, Try.results8, go_sem]) rfl ⟨rfl, ?_⟩
  all_goals (repeat (first | exact Below.refl _ _ | refine below_drew ?_ | refine below_alloc ?_ _))

set_option maxHeartbeats 4000000 in
set_option maxRecDepth 100000 in
theorem ask_far (e h n b pe : Int) (w : World) (he : 1 ≤ e ∧ e ≤ 1099511627776) (hpe : 1 ≤ pe ∧ pe ≤ 1099511627776) (q1 : (e == pe) = false) (q2 : (e == pe + 1) = false) (hh : 1 ≤ h) (hh2 : h ≤ 2) (hn : 1 ≤ n) (hn2 : n ≤ 2) (hb : b ≤ 1099511627776) :
    Calls Try.prog 8 #[.agg #[.int .u64 e, .int .i64 h], .agg #[.int .i64 n, .int .u64 pe, .int .u64 b]] w fun en w' =>
      en = .returned (.tuple #[.agg #[.int .u64 e, .int .i64 h], .agg #[.int .i64 n, .int .u64 pe, .int .u64 b, .bool false, .int .u64 e, .int .i64 h], .int .i64 0]) ∧ Below w.heap.size w w' := by
  have t1 : decide (h ≤ 2) = true := by simp [hh2]
  have hm := m44
  have g1 := ta_rg
  have g2 := ta_rh
  go_enter Try.func8, Try.ntmps8
  go_wp2
  go_region_held3 (fun w' => w'.cell? ⟨w.heap.size, 0, none⟩ = some (.int .u64 e) ∧ w'.cell? ⟨w.heap.size, 1, none⟩ = some (.int .i64 h) ∧ w'.cell? ⟨w.heap.size + 1, 0, none⟩ = some (.int .i64 n) ∧ w'.cell? ⟨w.heap.size + 1, 1, none⟩ = some (.int .u64 pe) ∧ w'.cell? ⟨w.heap.size + 1, 2, none⟩ = some (.int .u64 b)) ((refine ⟨?_, ?_, ?_, ?_, ?_⟩ <;> go_simp))
   ((go_at_call 44; refine (b44 _ _ _).mono ?_; rintro en w1 ⟨rfl, rfl⟩))
  all_goals go_wp2
  all_goals go_region
  all_goals go_wp2
  all_goals refine bodyPost_ret (v := .tuple #[.agg #[.int .u64 e, .int .i64 h], .agg #[.int .i64 n, .int .u64 pe, .int .u64 b, .bool false, .int .u64 e, .int .i64 h], .int .i64 0]) (by simp [results, Try.results8, go_sem]) rfl ⟨rfl, ?_⟩
  all_goals (repeat (first | exact Below.refl _ _ | refine below_drew ?_ | refine below_alloc ?_ _))

set_option maxHeartbeats 4000000 in
set_option maxRecDepth 100000 in
theorem ask_other (h n b pe : Int) (w : World) (hpe : 1 ≤ pe ∧ pe + 1 ≤ 1099511627776) (q2 : (h == n) = false) (hh : 1 ≤ h) (hh2 : h ≤ 2) (hn : 1 ≤ n) (hn2 : n ≤ 2) (hb : b ≤ 1099511627776) :
    Calls Try.prog 8 #[.agg #[.int .u64 (pe + 1), .int .i64 h], .agg #[.int .i64 n, .int .u64 pe, .int .u64 b]] w fun en w' =>
      en = .returned (.tuple #[.agg #[.int .u64 (pe + 1), .int .i64 h], .agg #[.int .i64 n, .int .u64 pe, .int .u64 b, .bool false, .int .u64 (pe + 1), .int .i64 h], .int .i64 0]) ∧ Below w.heap.size w w' := by
  have t1 : decide (h ≤ 2) = true := by simp [hh2]
  have hm := m44
  have g1 := ta_rg
  have g2 := ta_rh
  have q1 : (pe + 1 == pe) = false := by simp; omega
  go_enter Try.func8, Try.ntmps8
  go_wp2
  go_region_held3 (fun w' => w'.cell? ⟨w.heap.size, 0, none⟩ = some (.int .u64 (pe + 1)) ∧ w'.cell? ⟨w.heap.size, 1, none⟩ = some (.int .i64 h) ∧ w'.cell? ⟨w.heap.size + 1, 0, none⟩ = some (.int .i64 n) ∧ w'.cell? ⟨w.heap.size + 1, 1, none⟩ = some (.int .u64 pe) ∧ w'.cell? ⟨w.heap.size + 1, 2, none⟩ = some (.int .u64 b)) ((refine ⟨?_, ?_, ?_, ?_, ?_⟩ <;> go_simp))
   ((go_at_call 44; refine (b44 _ _ _).mono ?_; rintro en w1 ⟨rfl, rfl⟩))
  all_goals go_wp2
  all_goals go_region
  all_goals go_wp2
  all_goals refine bodyPost_ret (v := .tuple #[.agg #[.int .u64 (pe + 1), .int .i64 h], .agg #[.int .i64 n, .int .u64 pe, .int .u64 b, .bool false, .int .u64 (pe + 1), .int .i64 h], .int .i64 0]) (by simp [results, Try.results8, go_sem]) rfl ⟨rfl, ?_⟩
  all_goals (repeat (first | exact Below.refl _ _ | refine below_drew ?_ | refine below_alloc ?_ _))

set_option maxHeartbeats 4000000 in
set_option maxRecDepth 100000 in
theorem ask_badcell (e h n pe b : Int) (w : World) (hc : ¬ (1 ≤ e ∧ e ≤ 1099511627776 ∧ 1 ≤ h ∧ h ≤ 2)) :
    Calls Try.prog 8 #[.agg #[.int .u64 e, .int .i64 h], .agg #[.int .i64 n, .int .u64 pe, .int .u64 b]] w fun en w' =>
      en = .returned (.tuple #[.agg #[.int .u64 0, .int .i64 0], .agg #[.int .i64 0, .int .u64 0, .int .u64 0, .bool false, .int .u64 0, .int .i64 0], .int .i64 310]) ∧ Below w.heap.size w w' := by
  have hc' : e < 1 ∨ (1 ≤ e ∧ 1099511627776 < e) ∨ (1 ≤ e ∧ e ≤ 1099511627776 ∧ h < 1) ∨ (1 ≤ e ∧ e ≤ 1099511627776 ∧ 1 ≤ h ∧ 2 < h) := by omega
  clear hc
  rcases hc' with c1 | ⟨c1, c2⟩ | ⟨c1, c2, c3⟩ | ⟨c1, c2, c3, c4⟩
  all_goals try have t1 : decide (h ≤ 2) = false := by simp; omega
  all_goals try have t2 : decide (e ≤ 1099511627776) = false := by simp; omega
  all_goals go_enter Try.func8, Try.ntmps8
  all_goals go_wp2
  all_goals refine bodyPost_ret (v := .tuple #[.agg #[.int .u64 0, .int .i64 0], .agg #[.int .i64 0, .int .u64 0, .int .u64 0, .bool false, .int .u64 0, .int .i64 0], .int .i64 310]) (by simp [results, Try.results8, go_sem]) rfl ⟨rfl, ?_⟩
  all_goals (repeat (first | exact Below.refl _ _ | refine below_drew ?_ | refine below_alloc ?_ _))

set_option maxHeartbeats 4000000 in
set_option maxRecDepth 100000 in
theorem ask_badplea (e h n pe b : Int) (w : World) (he : 1 ≤ e ∧ e ≤ 1099511627776) (hh : 1 ≤ h) (hh2 : h ≤ 2) (hc : ¬ (1 ≤ n ∧ n ≤ 2 ∧ 1 ≤ pe ∧ pe ≤ 1099511627776 ∧ b ≤ 1099511627776)) :
    Calls Try.prog 8 #[.agg #[.int .u64 e, .int .i64 h], .agg #[.int .i64 n, .int .u64 pe, .int .u64 b]] w fun en w' =>
      en = .returned (.tuple #[.agg #[.int .u64 0, .int .i64 0], .agg #[.int .i64 0, .int .u64 0, .int .u64 0, .bool false, .int .u64 0, .int .i64 0], .int .i64 2]) ∧ Below w.heap.size w w' := by
  have t0 : decide (h ≤ 2) = true := by simp; omega
  have hc' : n < 1 ∨ (1 ≤ n ∧ 2 < n) ∨ (1 ≤ n ∧ n ≤ 2 ∧ pe < 1) ∨ (1 ≤ n ∧ n ≤ 2 ∧ 1 ≤ pe ∧ 1099511627776 < pe) ∨ (1 ≤ n ∧ n ≤ 2 ∧ 1 ≤ pe ∧ pe ≤ 1099511627776 ∧ 1099511627776 < b) := by omega
  clear hc
  rcases hc' with c1 | ⟨c1, c2⟩ | ⟨c1, c2, c3⟩ | ⟨c1, c2, c3, c4⟩ | ⟨c1, c2, c3, c4, c5⟩
  all_goals go_enter Try.func8, Try.ntmps8
  all_goals go_wp2
  all_goals refine bodyPost_ret (v := .tuple #[.agg #[.int .u64 0, .int .i64 0], .agg #[.int .i64 0, .int .u64 0, .int .u64 0, .bool false, .int .u64 0, .int .i64 0], .int .i64 2]) (by simp [results, Try.results8, go_sem]) rfl ⟨rfl, ?_⟩
  all_goals (repeat (first | exact Below.refl _ _ | refine below_drew ?_ | refine below_alloc ?_ _))

set_option maxHeartbeats 4000000 in
set_option maxRecDepth 100000 in
theorem cell_Ask.calls (a0_0 : Int) (a0_1 : Int) (a1_0 : Int) (a1_1 : Int) (a1_2 : Int) (r1 : Int) (r2 : Int) (r3 : Int) (r4 : Int) (r5 : Int) (r6 : Bool) (r7 : Int) (r8 : Int) (r9 : Int) (w : World) (h : cell_Ask.f a0_0 a0_1 a1_0 a1_1 a1_2 = some (r1, r2, r3, r4, r5, r6, r7, r8, r9)) :
    Calls Try.prog 8 #[.agg #[.int .u64 a0_0, .int .i64 a0_1], .agg #[.int .i64 a1_0, .int .u64 a1_1, .int .u64 a1_2]] w fun e w' => e = .returned (.tuple #[.agg #[.int .u64 r1, .int .i64 r2], .agg #[.int .i64 r3, .int .u64 r4, .int .u64 r5, .bool r6, .int .u64 r7, .int .i64 r8], .int .i64 r9]) ∧ Below w.heap.size w w' := by
  unfold cell_Ask.f askF at h
  by_cases c1 : 1 ≤ a0_0 ∧ a0_0 ≤ 1099511627776 ∧ 1 ≤ a0_1 ∧ a0_1 ≤ 2
  · rw [if_pos c1] at h
    by_cases c2 : 1 ≤ a1_0 ∧ a1_0 ≤ 2 ∧ 1 ≤ a1_1 ∧ a1_1 ≤ 1099511627776 ∧ a1_2 ≤ 1099511627776
    · rw [if_pos c2] at h
      by_cases c3 : a0_0 = a1_1 ∧ a1_1 < 1099511627776
      · rw [if_pos c3] at h
        obtain ⟨rfl, c3⟩ := c3
        simp only [Option.some.injEq, Prod.mk.injEq] at h
        obtain ⟨rfl, rfl, rfl, rfl, rfl, rfl, rfl, rfl, rfl⟩ := h
        exact ask_granted _ _ _ _ w ⟨c1.1, c3⟩ c1.2.2.1 c1.2.2.2 c2.1 c2.2.1 c2.2.2.2.2
      · rw [if_neg c3] at h
        by_cases c4 : a0_0 = a1_1 + 1 ∧ a0_1 = a1_0
        · rw [if_pos c4] at h
          obtain ⟨rfl, rfl⟩ := c4
          simp only [Option.some.injEq, Prod.mk.injEq] at h
          obtain ⟨rfl, rfl, rfl, rfl, rfl, rfl, rfl, rfl, rfl⟩ := h
          exact ask_had _ _ _ w ⟨c2.2.2.1, c1.2.1⟩ c1.2.2.1 c1.2.2.2 c2.2.2.2.2
        · rw [if_neg c4] at h
          simp only [Option.some.injEq, Prod.mk.injEq] at h
          obtain ⟨rfl, rfl, rfl, rfl, rfl, rfl, rfl, rfl, rfl⟩ := h
          by_cases c5 : a0_0 = a1_1
          · subst c5
            obtain rfl : a0_0 = 1099511627776 := by omega
            exact ask_top _ _ _ w c1.2.2.1 c1.2.2.2 c2.1 c2.2.1 c2.2.2.2.2
          · by_cases c6 : a0_0 = a1_1 + 1
            · subst c6
              exact ask_other _ _ _ _ w ⟨c2.2.2.1, c1.2.1⟩ (by simp; omega) c1.2.2.1 c1.2.2.2 c2.1 c2.2.1 c2.2.2.2.2
            · exact ask_far _ _ _ _ _ w ⟨c1.1, c1.2.1⟩ ⟨c2.2.2.1, c2.2.2.2.1⟩ (by simp; omega) (by simp; omega) c1.2.2.1 c1.2.2.2 c2.1 c2.2.1 c2.2.2.2.2
    · rw [if_neg c2] at h
      simp only [Option.some.injEq, Prod.mk.injEq] at h
      obtain ⟨rfl, rfl, rfl, rfl, rfl, rfl, rfl, rfl, rfl⟩ := h
      exact ask_badplea _ _ _ _ _ w ⟨c1.1, c1.2.1⟩ c1.2.2.1 c1.2.2.2 c2
  · rw [if_neg c1] at h
    simp only [Option.some.injEq, Prod.mk.injEq] at h
    obtain ⟨rfl, rfl, rfl, rfl, rfl, rfl, rfl, rfl, rfl⟩ := h
    exact ask_badcell _ _ _ _ _ w c1


end Go.Proofs.Ytndkmekphalimaa.P
