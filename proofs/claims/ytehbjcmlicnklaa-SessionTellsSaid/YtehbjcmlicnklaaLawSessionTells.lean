-- written for this claim by a patched copy of the kit's printer (tools/pp.py of the same repo) out of the translation; Lean checks it
import Derived.Test.YtehbjcmlicnklaaRows
import Derived.Test.YtehbjcmlicnklaaPx29
import Derived.Test.YtehbjcmlicnklaaPx29
import Derived.Test.YtehbjcmlicnklaaPureSessionTells
import Derived.Test.YtehbjcmlicnklaaOpen
import Derived.WalkKit
import Derived.ProofKit
import Derived.OpenShut
import Derived.ShutString
import Derived.ChangeOld
import Derived.Below
import Derived.SizedLaws
namespace Go.Proofs.Ytehbjcmlicnklaa.sessionTells
open Go.ChangeShapes Go.WideShapes Go.ChangeAt Go.RowKit Go.Proofs.YtehbjcmlicnklaaW.PrintWords Go.Proofs.Ytehbjcmlicnklaa.Open Go.Proofs.Ytehbjcmlicnklaa.P
open Go.ChangeMaps (open_string shut_string)
set_option linter.unusedVariables false
set_option linter.unusedSimpArgs false
theorem own : ownKnob Try.prog.godebug = none := by kernel_rfl
theorem laidOut : laidOutB Try.prog = true := by kernel_rfl
def wf32 (x : S32) : Prop := (Lit.int .i64 x.f0).wf = true ∧ x.f1.length ≤ maxLen ∧ x.f1.length * 4 ≤ 140737488351232 ∧ ∀ y0_ ∈ x.f1, (Lit.int .u32 y0_).wf = true
theorem opens32 : Opens Try.prog 32 k32 wf32 := by
  intro H enc w base sp held fuel cs d ps h hw
  obtain ⟨xs, n, -, hx, hl, hlen, hf⟩ := DataW.trod_struct Try.underlying32 h
  have hl' : cs.length = 2 := hl.trans (by kernel_rfl)
  obtain ⟨rfl, _⟩ := Prod.mk.inj hx
  match xs, hlen with
  | [q0, q1], _ =>
    simp only [List.map_cons, List.map_nil, DataW.weights, Try.underlying32, DataW.weightsEach, List.all_append, List.all_nil, Bool.and_eq_true, Bool.and_true] at hw
    obtain ⟨w0, w1⟩ := hw
    have e0 := hf 0 _ rfl
    obtain ⟨x0, k0', v0⟩ := (opens_int Try.underlying29) enc w base sp held n _ q0.1 q0.2 e0 w0
    have k0 : ((Kd.int .i64)).K w x0 ((cs.drop 0).take 1) := k0'
    have e1 := hf 1 _ rfl
    obtain ⟨x1, k1', v1⟩ := (opens_slice Try.underlying30 (opens_int Try.underlying59) (by kernel_rfl) (by kernel_rfl)) enc w base sp held n _ q1.1 q1.2 e1 w1
    have k1 : ((Kd.slice 59 (Kd.int .u32))).K w x1 ((cs.drop 1).take 1) := k1'
    exact ⟨⟨x0, x1⟩, pair_more 0 1 k0 (pair_last 1 1 hl' k1), ⟨v0, v1.1, v1.2.1, v1.2.2⟩⟩
def wf45 (x : S45) : Prop := (Lit.int .i64 x.f0).wf = true ∧ (Lit.int .u64 x.f1).wf = true ∧ (Lit.int .i64 x.f2.f0).wf = true ∧ x.f2.f1.length ≤ maxLen ∧ x.f2.f1.length * 4 ≤ 140737488351232 ∧ ∀ y0_ ∈ x.f2.f1, (Lit.int .u32 y0_).wf = true
theorem opens45 : Opens Try.prog 45 k45 wf45 := by
  intro H enc w base sp held fuel cs d ps h hw
  obtain ⟨xs, n, -, hx, hl, hlen, hf⟩ := DataW.trod_struct Try.underlying45 h
  have hl' : cs.length = 4 := hl.trans (by kernel_rfl)
  obtain ⟨rfl, _⟩ := Prod.mk.inj hx
  match xs, hlen with
  | [q0, q1, q2], _ =>
    simp only [List.map_cons, List.map_nil, DataW.weights, Try.underlying45, DataW.weightsEach, List.all_append, List.all_nil, Bool.and_eq_true, Bool.and_true] at hw
    obtain ⟨w0, w1, w2⟩ := hw
    have e0 := hf 0 _ rfl
    obtain ⟨x0, k0', v0⟩ := (opens_int Try.underlying3) enc w base sp held n _ q0.1 q0.2 e0 w0
    have k0 : ((Kd.int .i64)).K w x0 ((cs.drop 0).take 1) := k0'
    have e1 := hf 1 _ rfl
    obtain ⟨x1, k1', v1⟩ := (opens_int Try.underlying28) enc w base sp held n _ q1.1 q1.2 e1 w1
    have k1 : ((Kd.int .u64)).K w x1 ((cs.drop 1).take 1) := k1'
    have e2 := hf 2 _ rfl
    obtain ⟨x2, k2', v2⟩ := opens32 enc w base sp held n _ q2.1 q2.2 e2 w2
    have k2 : (k32).K w x2 ((cs.drop 2).take 2) := k2'
    exact ⟨⟨x0, x1, x2⟩, pair_more 0 1 k0 (pair_more 1 1 k1 (pair_last 2 2 hl' k2)), ⟨v0, v1, v2.1, v2.2.1, v2.2.2.1, v2.2.2.2⟩⟩
def wf24 (x : S24) : Prop := x.f0.length ≤ maxLen ∧ x.f0.length * 48 ≤ 140737488351232 ∧ ∀ y0_ ∈ x.f0, (Lit.int .i64 y0_.f0).wf = true ∧ (Lit.int .u64 y0_.f1).wf = true ∧ (Lit.int .i64 y0_.f2.f0).wf = true ∧ y0_.f2.f1.length ≤ maxLen ∧ y0_.f2.f1.length * 4 ≤ 140737488351232 ∧ (∀ y1_ ∈ y0_.f2.f1, (Lit.int .u32 y1_).wf = true)
theorem opens24 : Opens Try.prog 24 k24 wf24 := by
  intro H enc w base sp held fuel cs d ps h hw
  obtain ⟨xs, n, -, hx, hl, hlen, hf⟩ := DataW.trod_struct Try.underlying24 h
  have hl' : cs.length = 1 := hl.trans (by kernel_rfl)
  obtain ⟨rfl, _⟩ := Prod.mk.inj hx
  match xs, hlen with
  | [q0], _ =>
    simp only [List.map_cons, List.map_nil, DataW.weights, Try.underlying24, DataW.weightsEach, List.all_append, List.all_nil, Bool.and_eq_true, Bool.and_true] at hw
    have w0 := hw
    have e0 := hf 0 _ rfl
    obtain ⟨x0, k0', v0⟩ := (opens_slice Try.underlying22 opens45 (by kernel_rfl) (by kernel_rfl)) enc w base sp held n _ q0.1 q0.2 e0 w0
    have k0 : ((Kd.slice 45 k45)).K w x0 ((cs.drop 0).take 1) := k0'
    exact ⟨⟨x0⟩, pair_last 0 1 hl' k0, ⟨v0.1, v0.2.1, v0.2.2⟩⟩
def wf34 (x : S34) : Prop := (Lit.int .i64 x.f0).wf = true ∧ (Lit.int .u64 x.f1).wf = true ∧ (Lit.int .i64 x.f2.f0).wf = true ∧ x.f2.f1.length ≤ maxLen ∧ x.f2.f1.length * 4 ≤ 140737488351232 ∧ ∀ y0_ ∈ x.f2.f1, (Lit.int .u32 y0_).wf = true
theorem opens34 : Opens Try.prog 34 k34 wf34 := by
  intro H enc w base sp held fuel cs d ps h hw
  obtain ⟨xs, n, -, hx, hl, hlen, hf⟩ := DataW.trod_struct Try.underlying34 h
  have hl' : cs.length = 4 := hl.trans (by kernel_rfl)
  obtain ⟨rfl, _⟩ := Prod.mk.inj hx
  match xs, hlen with
  | [q0, q1, q2], _ =>
    simp only [List.map_cons, List.map_nil, DataW.weights, Try.underlying34, DataW.weightsEach, List.all_append, List.all_nil, Bool.and_eq_true, Bool.and_true] at hw
    obtain ⟨w0, w1, w2⟩ := hw
    have e0 := hf 0 _ rfl
    obtain ⟨x0, k0', v0⟩ := (opens_int Try.underlying3) enc w base sp held n _ q0.1 q0.2 e0 w0
    have k0 : ((Kd.int .i64)).K w x0 ((cs.drop 0).take 1) := k0'
    have e1 := hf 1 _ rfl
    obtain ⟨x1, k1', v1⟩ := (opens_int Try.underlying28) enc w base sp held n _ q1.1 q1.2 e1 w1
    have k1 : ((Kd.int .u64)).K w x1 ((cs.drop 1).take 1) := k1'
    have e2 := hf 2 _ rfl
    obtain ⟨x2, k2', v2⟩ := opens32 enc w base sp held n _ q2.1 q2.2 e2 w2
    have k2 : (k32).K w x2 ((cs.drop 2).take 2) := k2'
    exact ⟨⟨x0, x1, x2⟩, pair_more 0 1 k0 (pair_more 1 1 k1 (pair_last 2 2 hl' k2)), ⟨v0, v1, v2.1, v2.2.1, v2.2.2.1, v2.2.2.2⟩⟩
set_option maxRecDepth 100000 in
set_option maxHeartbeats 2000000 in
theorem lifted (os : Os) (started : os.Started) (H : Type) (enc : TypeId × Value → H) :
    ReturnsInHanded {} Try.checked os 5 .any (Rows.sessionTellsSpec.pre6 enc Try.prog Try.f5 Rows.sessionTellsRow.domain false) (Rows.sessionTellsSpec.post enc Try.prog Try.f5 false true false false) := by
  refine returnsInHanded_of_change_sized (C := Try.checked) own started (by kernel_rfl) Try.func5
    (ChangeSpec.witness6 (enc := enc) (C := Try.checked) false ⟨#[], #[.agg #[.slice none 0 0], .agg #[.slice none 0 0], .slice none 0 0], []⟩ 30 (by kernel_rfl) (by kernel_rfl) (by kernel_rfl) (by kernel_rfl)) ?_
  intro W base args ds gs before hval0 hW hcnd hsz0 _
  have hsz : (DataW.weightsEach Try.prog (Try.f5.params.toList ++ Rows.sessionTellsSpec.plain.varTypes Try.prog) (ds ++ gs)).all (· ≤ reachBytes) = true := hsz0
  have hval : ∀ (j : Nat) t v, Try.f5.params[j]? = some t → args[j]? = some v → Value.okWide Try.prog W .any base t v := hval0
  have hW' := hW
  obtain ⟨p, q, hA0, hV, rfl, hfz, hnd⟩ := hW
  have hA : DataW.TrodAll enc Try.prog W 0 (fun _ => true) true Try.f5.params.toList args.toList ds p := hA0
  rw [Try.params5] at hA hval hsz
  obtain ⟨v0, vs0, d0, ds0, p0, q0, hargs, rfl, rfl, h0, r0⟩ := trodAll_cons hA
  obtain ⟨v1, vs1, d1, ds1, p1, q1, rfl, rfl, rfl, h1, r1⟩ := trodAll_cons r0
  obtain ⟨v2, vs2, d2, ds2, p2, q2, rfl, rfl, rfl, h2, r2⟩ := trodAll_cons r1
  obtain ⟨rfl, rfl, rfl⟩ := trodAll_nil r2
  obtain rfl : args = #[v0, v1, v2] := by cases args; simp_all
  obtain ⟨rfl, rfl⟩ := trodVars_none hV
  obtain ⟨cs0, rfl, _⟩ := okWide_struct Try.underlying24 (hval 0 24 v0 rfl rfl)
  have k0 := h0
  have lt0 : ∀ x ∈ p0, x.block < W.heap.size := by obtain ⟨m, hm⟩ := k0; exact DataW.trod_lt m _ _ _ hm
  obtain ⟨x0, hk0, hw0⟩ := arg_agg opens24 h0 (each_weights hsz (j := 0) (t := 24) rfl rfl)
  obtain ⟨A0_0, c0_0, hcs0, hc0_0, hr0_0⟩ := k24_open hk0
  obtain rfl : cs0 = #[.slice A0_0 ((x0.f0)).length c0_0] := by cases cs0; simp_all
  obtain ⟨cs1, rfl, _⟩ := okWide_struct Try.underlying24 (hval 1 24 v1 rfl rfl)
  have k1 := h1
  have lt1 : ∀ x ∈ p1, x.block < W.heap.size := by obtain ⟨m, hm⟩ := k1; exact DataW.trod_lt m _ _ _ hm
  obtain ⟨x1, hk1, hw1⟩ := arg_agg opens24 h1 (each_weights hsz (j := 1) (t := 24) rfl rfl)
  obtain ⟨A1_0, c1_0, hcs1, hc1_0, hr1_0⟩ := k24_open hk1
  obtain rfl : cs1 = #[.slice A1_0 ((x1.f0)).length c1_0] := by cases cs1; simp_all
  obtain ⟨A2, len2, c2, rfl⟩ := okWide_slice Try.underlying25 (hval 2 25 v2 rfl rfl)
  have k2 := h2
  have lt2 : ∀ x ∈ p2, x.block < W.heap.size := by obtain ⟨m, hm⟩ := k2; exact DataW.trod_lt m _ _ _ hm
  obtain ⟨l2, rfl, hc2, hr2, hw2⟩ := arg_slice (opens_slice Try.underlying25 opens34 (by kernel_rfl) (by kernel_rfl)) h2 (each_weights hsz (j := 2) (t := 25) rfl rfl)
  try clear hA0 hval0 hsz0 hsz
  have hP : curfewlaw12_SessionTells.f (x0.f0) (x1.f0) l2 = some true := Pure.SessionTells (x0.f0) (x1.f0) l2 hw0.1 hw0.2.1 hw0.2.2 hw1.1 hw1.2.1 hw1.2.2 hw2.1 hw2.2.1 hw2.2.2
  refine (curfewlaw12_SessionTells.calls _ _ (x0.f0) _ _ (x1.f0) _ _ l2 true W hr0_0 hc0_0 hr1_0 hc1_0 hr2 hc2 hP).mono fun e W' he => ?_
  obtain ⟨he, bel⟩ := he
  subst he
  exact ⟨_, rfl, _, _, _, [], _, [], hW', trodAll_mk1 (shut_bool Try.underlying4 _), (trodAll_cons_mk (Below.trod laidOut (by kernel_rfl) (of_decide_eq_true (by kernel_rfl)) k0 bel lt0) (trodAll_cons_mk (Below.trod laidOut (by kernel_rfl) (of_decide_eq_true (by kernel_rfl)) k1 bel lt1) (trodAll_cons_mk (Below.trod laidOut (by kernel_rfl) (of_decide_eq_true (by kernel_rfl)) k2 bel lt2) trodAll_mk0))), rfl, bel.frame _, fun h => by cases h⟩
theorem over : Rows.sessionTellsRow.holds Try.pinned (OpenSpec.ofChange Rows.sessionTellsSpec) :=
  OpenClaim.holds_of_wide 5 Try.f5 rfl rfl rfl rfl rfl rfl rfl ⟨rfl, rfl, rfl, rfl, rfl⟩ rfl rfl rfl rfl rfl (by kernel_rfl) Try.func5 (by kernel_rfl)
    (of_decide_eq_true (by kernel_rfl)) (by unfold Func.isWrapper; first | (rw [if_pos (by decide +kernel)]; kernel_rfl) | (rw [if_neg (by decide +kernel)]; exact ⟨rfl, rfl⟩))
    (fun os started H enc _ => lifted os started H enc)
theorem proved : Rows.SessionTellsSaid := over
#print axioms proved
end Go.Proofs.Ytehbjcmlicnklaa.sessionTells
namespace Go.Proofs.Ytehbjcmlicnklaa
/-- The row, under a short name, for the claim. -/
theorem sessionTells_holds : Rows.SessionTellsSaid := sessionTells.proved
end Go.Proofs.Ytehbjcmlicnklaa
