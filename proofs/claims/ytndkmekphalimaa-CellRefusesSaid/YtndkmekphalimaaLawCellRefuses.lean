-- written for this claim by a patched copy of the kit's printer (tools/pp.py of the same repo) out of the translation; Lean checks it
import Derived.Test.YtndkmekphalimaaRows
import Derived.Test.YtndkmekphalimaaPx14
import Derived.Test.YtndkmekphalimaaPx14
import Derived.Test.YtndkmekphalimaaPureCellRefuses
import Derived.Test.YtndkmekphalimaaOpen
import Derived.WalkKit
import Derived.ProofKit
import Derived.OpenShut
import Derived.ShutString
import Derived.ChangeOld
import Derived.Below
import Derived.SizedLaws
namespace Go.Proofs.Ytndkmekphalimaa.cellRefuses
open Go.ChangeShapes Go.WideShapes Go.ChangeAt Go.RowKit Go.Proofs.YtndkmekphalimaaW.PrintWords Go.Proofs.Ytndkmekphalimaa.Open Go.Proofs.Ytndkmekphalimaa.P
open Go.ChangeMaps (open_string shut_string)
set_option linter.unusedVariables false
theorem own : ownKnob Try.prog.godebug = none := by kernel_rfl
theorem laidOut : laidOutB Try.prog = true := by kernel_rfl
def wf24 (x : S24) : Prop := (Lit.int .u64 x.f0).wf = true ∧ (Lit.int .i64 x.f1).wf = true
theorem opens24 : Opens Try.prog 24 k24 wf24 := by
  intro H enc w base sp held fuel cs d ps h hw
  obtain ⟨xs, n, -, hx, hl, hlen, hf⟩ := DataW.trod_struct Try.underlying24 h
  have hl' : cs.length = 2 := hl.trans (by kernel_rfl)
  obtain ⟨rfl, _⟩ := Prod.mk.inj hx
  match xs, hlen with
  | [q0, q1], _ =>
    simp only [List.map_cons, List.map_nil, DataW.weights, Try.underlying24, DataW.weightsEach, List.all_append, List.all_nil, Bool.and_eq_true, Bool.and_true] at hw
    obtain ⟨w0, w1⟩ := hw
    have e0 := hf 0 _ rfl
    obtain ⟨x0, k0', v0⟩ := (opens_int Try.underlying22) enc w base sp held n _ q0.1 q0.2 e0 w0
    have k0 : ((Kd.int .u64)).K w x0 ((cs.drop 0).take 1) := k0'
    have e1 := hf 1 _ rfl
    obtain ⟨x1, k1', v1⟩ := (opens_int Try.underlying3) enc w base sp held n _ q1.1 q1.2 e1 w1
    have k1 : ((Kd.int .i64)).K w x1 ((cs.drop 1).take 1) := k1'
    exact ⟨⟨x0, x1⟩, pair_more 0 1 k0 (pair_last 1 1 hl' k1), ⟨v0, v1⟩⟩
def wf26 (x : S26) : Prop := (Lit.int .i64 x.f0).wf = true ∧ (Lit.int .u64 x.f1).wf = true ∧ (Lit.int .u64 x.f2).wf = true
theorem opens26 : Opens Try.prog 26 k26 wf26 := by
  intro H enc w base sp held fuel cs d ps h hw
  obtain ⟨xs, n, -, hx, hl, hlen, hf⟩ := DataW.trod_struct Try.underlying26 h
  have hl' : cs.length = 3 := hl.trans (by kernel_rfl)
  obtain ⟨rfl, _⟩ := Prod.mk.inj hx
  match xs, hlen with
  | [q0, q1, q2], _ =>
    simp only [List.map_cons, List.map_nil, DataW.weights, Try.underlying26, DataW.weightsEach, List.all_append, List.all_nil, Bool.and_eq_true, Bool.and_true] at hw
    obtain ⟨w0, w1, w2⟩ := hw
    have e0 := hf 0 _ rfl
    obtain ⟨x0, k0', v0⟩ := (opens_int Try.underlying3) enc w base sp held n _ q0.1 q0.2 e0 w0
    have k0 : ((Kd.int .i64)).K w x0 ((cs.drop 0).take 1) := k0'
    have e1 := hf 1 _ rfl
    obtain ⟨x1, k1', v1⟩ := (opens_int Try.underlying22) enc w base sp held n _ q1.1 q1.2 e1 w1
    have k1 : ((Kd.int .u64)).K w x1 ((cs.drop 1).take 1) := k1'
    have e2 := hf 2 _ rfl
    obtain ⟨x2, k2', v2⟩ := (opens_int Try.underlying22) enc w base sp held n _ q2.1 q2.2 e2 w2
    have k2 : ((Kd.int .u64)).K w x2 ((cs.drop 2).take 1) := k2'
    exact ⟨⟨x0, x1, x2⟩, pair_more 0 1 k0 (pair_more 1 1 k1 (pair_last 2 1 hl' k2)), ⟨v0, v1, v2⟩⟩
set_option maxRecDepth 100000 in
set_option maxHeartbeats 2000000 in
theorem lifted (os : Os) (started : os.Started) (H : Type) (enc : TypeId × Value → H) :
    ReturnsInHanded {} Try.checked os 3 .any (Rows.cellRefusesSpec.pre6 enc Try.prog Try.f3 Rows.cellRefusesRow.domain false) (Rows.cellRefusesSpec.post enc Try.prog Try.f3 false true false false) := by
  refine returnsInHanded_of_change_sized (C := Try.checked) own started (by kernel_rfl) Try.func3
    (ChangeSpec.witness6 (enc := enc) (C := Try.checked) false ⟨#[], #[.agg #[.int .u64 0, .int .i64 0], .agg #[.int .i64 0, .int .u64 0, .int .u64 0]], []⟩ 30 (by kernel_rfl) (by kernel_rfl) (by kernel_rfl) (by kernel_rfl)) ?_
  intro W base args ds gs before hval0 hW hcnd hsz0 _
  have hsz : (DataW.weightsEach Try.prog (Try.f3.params.toList ++ Rows.cellRefusesSpec.plain.varTypes Try.prog) (ds ++ gs)).all (· ≤ reachBytes) = true := hsz0
  have hval : ∀ (j : Nat) t v, Try.f3.params[j]? = some t → args[j]? = some v → Value.okWide Try.prog W .any base t v := hval0
  have hW' := hW
  obtain ⟨p, q, hA0, hV, rfl, hfz, hnd⟩ := hW
  have hA : DataW.TrodAll enc Try.prog W 0 (fun _ => true) true Try.f3.params.toList args.toList ds p := hA0
  rw [Try.params3] at hA hval hsz
  obtain ⟨v0, vs0, d0, ds0, p0, q0, hargs, rfl, rfl, h0, r0⟩ := trodAll_cons hA
  obtain ⟨v1, vs1, d1, ds1, p1, q1, rfl, rfl, rfl, h1, r1⟩ := trodAll_cons r0
  obtain ⟨rfl, rfl, rfl⟩ := trodAll_nil r1
  obtain rfl : args = #[v0, v1] := by cases args; simp_all
  obtain ⟨rfl, rfl⟩ := trodVars_none hV
  obtain ⟨cs0, rfl, _⟩ := okWide_struct Try.underlying24 (hval 0 24 v0 rfl rfl)
  have k0 := h0
  have lt0 : ∀ x ∈ p0, x.block < W.heap.size := by obtain ⟨m, hm⟩ := k0; exact DataW.trod_lt m _ _ _ hm
  obtain ⟨x0, hk0, hw0⟩ := arg_agg opens24 h0 (each_weights hsz (j := 0) (t := 24) rfl rfl)
  have hcs0 := k24_open hk0
  obtain rfl : cs0 = #[.int .u64 (x0.f0), .int .i64 (x0.f1)] := by cases cs0; simp_all
  obtain ⟨cs1, rfl, _⟩ := okWide_struct Try.underlying26 (hval 1 26 v1 rfl rfl)
  have k1 := h1
  have lt1 : ∀ x ∈ p1, x.block < W.heap.size := by obtain ⟨m, hm⟩ := k1; exact DataW.trod_lt m _ _ _ hm
  obtain ⟨x1, hk1, hw1⟩ := arg_agg opens26 h1 (each_weights hsz (j := 1) (t := 26) rfl rfl)
  have hcs1 := k26_open hk1
  obtain rfl : cs1 = #[.int .i64 (x1.f0), .int .u64 (x1.f1), .int .u64 (x1.f2)] := by cases cs1; simp_all
  clear hA0 hval0 hsz0 hsz
  have hP : curfewlaw21_CellRefuses.f (x0.f0) (x0.f1) (x1.f0) (x1.f1) (x1.f2) = some true := Pure.CellRefuses (x0.f0) (x0.f1) (x1.f0) (x1.f1) (x1.f2) hw0.1 hw0.2 hw1.1 hw1.2.1 hw1.2.2
  refine (curfewlaw21_CellRefuses.calls (x0.f0) (x0.f1) (x1.f0) (x1.f1) (x1.f2) true W hP).mono fun e W' he => ?_
  obtain ⟨he, bel⟩ := he
  subst he
  exact ⟨_, rfl, _, _, _, [], _, [], hW', trodAll_mk1 (shut_bool Try.underlying4 _), (trodAll_cons_mk (Below.trod laidOut (by kernel_rfl) (of_decide_eq_true (by kernel_rfl)) k0 bel lt0) (trodAll_cons_mk (Below.trod laidOut (by kernel_rfl) (of_decide_eq_true (by kernel_rfl)) k1 bel lt1) trodAll_mk0)), rfl, bel.frame _, fun h => by cases h⟩
theorem over : Rows.cellRefusesRow.holds Try.pinned (OpenSpec.ofChange Rows.cellRefusesSpec) :=
  OpenClaim.holds_of_wide 3 Try.f3 rfl rfl rfl rfl rfl rfl rfl ⟨rfl, rfl, rfl, rfl, rfl⟩ rfl rfl rfl rfl rfl (by kernel_rfl) Try.func3 (by kernel_rfl)
    (of_decide_eq_true (by kernel_rfl)) (by unfold Func.isWrapper; first | (rw [if_pos (by decide +kernel)]; kernel_rfl) | (rw [if_neg (by decide +kernel)]; exact ⟨rfl, rfl⟩))
    (fun os started H enc _ => lifted os started H enc)
theorem proved : Rows.CellRefusesSaid := over
#print axioms proved
end Go.Proofs.Ytndkmekphalimaa.cellRefuses
namespace Go.Proofs.Ytndkmekphalimaa
/-- The row, under a short name, for the claim. -/
theorem cellRefuses_holds : Rows.CellRefusesSaid := cellRefuses.proved
end Go.Proofs.Ytndkmekphalimaa
