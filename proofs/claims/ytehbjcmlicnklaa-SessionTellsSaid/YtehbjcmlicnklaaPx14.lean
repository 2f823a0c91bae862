-- written for this claim by a patched copy of the kit's printer (tools/pp.py of the same repo) out of the translation; Lean checks it
import Derived.Test.YtehbjcmlicnklaaPx0
import Derived.Test.YtehbjcmlicnklaaPx5
import Derived.Test.YtehbjcmlicnklaaPx7
import Derived.Test.YtehbjcmlicnklaaPx10
import Derived.Test.YtehbjcmlicnklaaPx13
namespace Go.Proofs.Ytehbjcmlicnklaa.P
open Go.RowKit Go.Proofs.YtehbjcmlicnklaaW.PrintWords Go.Proofs.YtehbjcmlicnklaaW.PrintLast Go.Proofs.YtehbjcmlicnklaaW.PrintMore
attribute [local go_sem] max2_int min2_int max_two min_two max_three min_three max_four min_four   -- for this text's walks alone
set_option linter.unusedVariables false
set_option linter.unusedSimpArgs false

/-! ### session_Of: function 21 (proved by hand) -/
open Go.Proofs.Ytehbjcmlicnklaa.Hand
attribute [local irreducible] wpStill

theorem of_dep_ : True := by have h_ := @session_Keep.calls; trivial
set_option maxHeartbeats 4000000 in
set_option maxRecDepth 100000 in
theorem oftop_bad (A0 : Option Addr) (c0 : Nat) (l0 : List S45) (c : Int) (w : World) (hr0 : Kd.C k45 w A0 l0.length l0) (hc0 : l0.length ≤ c0) (k : Nat) (e0 : Int) (hq : session_Check.f k l0 = some e0) (h : (1 ≤ c ∧ c ≤ 3 ∧ (e0 != 0) = true) ∨ c < 1 ∨ (1 ≤ c ∧ 3 < c)) :
    Calls Try.prog 21 #[.agg #[.slice A0 l0.length c0], .int .i64 c] w fun e w' => e = .returned (.agg #[.int .i64 0, .int .u64 0, .int .i64 0, .slice none 0 0]) ∧ Below w.heap.size w w' := by
  have HB0 := Below.refl w.heap.size w
  have HQ := Lib.hid hq
  clear hq
  rcases h with ⟨h1, h2, h3⟩ | h1 | ⟨h1, h2⟩
  · go_enter Try.func21, Try.ntmps21
    go_wp2_with fail
    refine (session_client.calls c true _ (by unfold session_client.f; rw [if_pos h1, decide_eq_true h2])).mono ?_
    rintro e w1 ⟨rfl, hD⟩
    have hB1 := hD.below
    obtain ⟨hcl, hfr⟩ := bcell hB1
    simp only [World.size_alloc] at hcl hfr
    have hB2 : Below w.heap.size w w1 := below_step (by repeat (with_reducible first | exact HB0 | refine below_alloc ?_ _)) hB1
    have hz := hB1.size
    simp only [World.size_alloc] at hz
    go_wp2_with fail
    refine (session_Check.calls k A0 c0 l0 e0 _ (Kd.C_below hr0 hB2) hc0 HQ.out).mono ?_
    rintro e w2 ⟨rfl, hB3⟩
    obtain ⟨hcl2, hfr2⟩ := bcell hB3
    have hz1 : w.heap.size < w1.heap.size := by omega
    have hz2 : w.heap.size + 1 < w1.heap.size := by omega
    have hB4 : Below w.heap.size w w2 := below_step hB2 hB3
    go_wp2
    refine bodyPost_ret (v := .agg #[.int .i64 0, .int .u64 0, .int .i64 0, .slice none 0 0]) (by simp [results, Try.results21, go_sem, hcl, hfr, hcl2, hfr2, hz1, hz2]) rfl ⟨rfl, ?_⟩
    repeat (with_reducible first | exact hB4 | refine below_alloc ?_ _ | refine below_drew1 ?_ | refine Below.setCell ?_ (by first | (simp; done) | (simp; omega)) _)
  all_goals
    go_enter Try.func21, Try.ntmps21
    go_wp2_with fail
    refine (session_client.calls c false _ (by unfold session_client.f; first | (rw [if_neg (by omega)]; done) | (rw [if_pos (by omega), decide_eq_false (by omega)]; done))).mono ?_
    rintro e w1 ⟨rfl, hD⟩
    have hB1 := hD.below
    obtain ⟨hcl, hfr⟩ := bcell hB1
    simp only [World.size_alloc] at hcl hfr
    have hB2 : Below w.heap.size w w1 := below_step (by repeat (with_reducible first | exact HB0 | refine below_alloc ?_ _)) hB1
    go_wp2
    refine bodyPost_ret (v := .agg #[.int .i64 0, .int .u64 0, .int .i64 0, .slice none 0 0]) (by simp [results, Try.results21, go_sem, hcl, hfr]) rfl ⟨rfl, ?_⟩
    repeat (with_reducible first | exact hB2 | refine below_alloc ?_ _ | refine below_drew1 ?_ | refine Below.setCell ?_ (by first | (simp; done) | (simp; omega)) _)
set_option maxHeartbeats 4000000 in
set_option maxRecDepth 100000 in
theorem oftop_good (A0 : Option Addr) (c0 : Nat) (l0 : List S45) (c : Int) (w : World) (hr0 : Kd.C k45 w A0 l0.length l0) (hc0 : l0.length ≤ c0) (k : Nat) (hq : session_Check.f k l0 = some 0) (h1 : 1 ≤ c) (h2 : c ≤ 3) (x1 x2 x3 : Int) (x4 : List Int) (x5 : Int) (x6 : Bool) (ho : session_of.f l0 c = some (x1, x2, x3, x4, x5, x6)) :
    Calls Try.prog 21 #[.agg #[.slice A0 l0.length c0], .int .i64 c] w fun e w' => ∃ v : Value, e = .returned (.agg #[.int .i64 x1, .int .u64 x2, .int .i64 x3, v]) ∧ Kd.R (Kd.int .u32) 59 w' w.heap.size (fun _ => True) v x4 ∧ Below w.heap.size w w' := by
  have HB0 := Below.refl w.heap.size w
  have HQ := Lib.hid hq
  have HO := Lib.hid ho
  clear hq ho
  go_enter Try.func21, Try.ntmps21
  go_wp2_with fail
  refine (session_client.calls c true _ (by unfold session_client.f; rw [if_pos h1, decide_eq_true h2])).mono ?_
  rintro e w1 ⟨rfl, hD⟩
  have hB1 := hD.below
  obtain ⟨hcl, hfr⟩ := bcell hB1
  simp only [World.size_alloc] at hcl hfr
  have hB2 : Below w.heap.size w w1 := below_step (by repeat (with_reducible first | exact HB0 | refine below_alloc ?_ _)) hB1
  have hz := hB1.size
  simp only [World.size_alloc] at hz
  go_wp2_with fail
  refine (session_Check.calls k A0 c0 l0 0 _ (Kd.C_below hr0 hB2) hc0 HQ.out).mono ?_
  rintro e w2 ⟨rfl, hB3⟩
  obtain ⟨hcl2, hfr2⟩ := bcell hB3
  have hz1 : w.heap.size < w1.heap.size := by omega
  have hz2 : w.heap.size + 1 < w1.heap.size := by omega
  have hB4 : Below w.heap.size w w2 := below_step hB2 hB3
  have hzz := hB3.size
  go_wp2_with fail
  refine (session_of.calls A0 c0 l0 c x1 x2 x3 x4 x5 x6 _ (Kd.C_below hr0 hB4) hc0 HO.out).mono ?_
  rintro e w3 ⟨v, rfl, hR, hB5⟩
  obtain ⟨Aq, cq, eq⟩ := Kd.R_slice hR
  subst eq
  obtain ⟨hcl3, hfr3⟩ := bcell hB5
  have hz3 : w.heap.size < w2.heap.size := by omega
  have hz4 : w.heap.size + 1 < w2.heap.size := by omega
  have hB6 : Below w.heap.size w w3 := below_step hB4 hB5
  have hfield_ : ∀ (a b d f : Int) (u : Value) (t : Bool) (W : World), (Instr.field 63 (.agg #[.int .i64 a, .int .u64 b, .int .i64 d, u, .int .i64 f, .bool t]) 0).run Try.prog W = .ok (.agg #[.int .i64 a, .int .u64 b, .int .i64 d, u]) W := fun _ _ _ _ _ _ _ => rfl
  go_wp2
  refine bodyPost_ret (v := .agg #[.int .i64 x1, .int .u64 x2, .int .i64 x3, .slice Aq x4.length cq]) (by simp [results, Try.results21, go_sem, hcl, hfr, hcl2, hfr2, hcl3, hfr3, hz1, hz2, hz3, hz4]) rfl ⟨_, rfl, ?_, ?_⟩
  · refine Kd.R_lower (base := w2.heap.size) ?_ (by omega)
    repeat (with_reducible refine R_setlow ?_ (by first | (simp; done) | (simp; omega)) _)
    exact hR
  · repeat (with_reducible first | exact hB6 | refine below_alloc ?_ _ | refine below_drew1 ?_ | refine Below.setCell ?_ (by first | (simp; done) | (simp; omega)) _)

def ofTop (l : List S45) (c : Int) : Option (Int × Int × Int × List Int) :=
  if 1 ≤ c ∧ c ≤ 3 ∧ rightRows 0 l = true then (session_of.f l c).map (fun x => (x.1, x.2.1, x.2.2.1, x.2.2.2.1)) else some (0, 0, 0, [])
def session_Of.f (l0_0 : List (S45)) (a1 : Int) : Option (Int × Int × Int × List Int) := ofTop l0_0 a1
set_option maxHeartbeats 4000000 in
set_option maxRecDepth 100000 in
theorem session_Of.calls (A0_0 : Option Addr) (c0_0 : Nat) (l0_0 : List (S45)) (a1 : Int) (r1 : Int) (r2 : Int) (r3 : Int) (r4 : List Int) (w : World) (hr0_0 : Kd.C k45 w A0_0 l0_0.length l0_0) (hc0_0 : l0_0.length ≤ c0_0) (h : session_Of.f l0_0 a1 = some (r1, r2, r3, r4)) :
    Calls Try.prog 21 #[.agg #[.slice A0_0 l0_0.length c0_0], .int .i64 a1] w fun e w' => ∃ v3_ : Value, e = .returned (.agg #[.int .i64 r1, .int .u64 r2, .int .i64 r3, v3_]) ∧ Kd.R (Kd.int .u32) 59 w' w.heap.size (fun _ => True) v3_ r4 ∧ Below w.heap.size w w' := by
  obtain ⟨hll, hnn⟩ := rows_len hr0_0
  obtain ⟨k, hk⟩ := Ev.rounds (check_ev l0_0 hll hnn)
  have h : ofTop l0_0 a1 = some (r1, r2, r3, r4) := h
  unfold ofTop at h
  by_cases hc : 1 ≤ a1 ∧ a1 ≤ 3 ∧ rightRows 0 l0_0 = true
  · rw [if_pos hc] at h
    rw [hc.2.2] at hk
    obtain ⟨⟨x1, x2, x3, x4, x5, x6⟩, ho, hx⟩ := Option.map_eq_some_iff.1 h
    simp only [Prod.mk.injEq] at hx
    obtain ⟨rfl, rfl, rfl, rfl⟩ := hx
    exact oftop_good A0_0 c0_0 l0_0 a1 w hr0_0 hc0_0 k hk hc.1 hc.2.1 _ _ _ _ _ _ ho
  · rw [if_neg hc] at h
    simp only [Option.some.injEq, Prod.mk.injEq] at h
    obtain ⟨rfl, rfl, rfl, rfl⟩ := h
    refine (oftop_bad A0_0 c0_0 l0_0 a1 w hr0_0 hc0_0 k _ hk ?_).mono ?_
    · by_cases h1 : 1 ≤ a1
      · by_cases h2 : a1 ≤ 3
        · refine .inl ⟨h1, h2, ?_⟩
          have : rightRows 0 l0_0 = false := by
            rcases Bool.eq_false_or_eq_true (rightRows 0 l0_0) with h | h
            · exact absurd ⟨h1, h2, h⟩ hc
            · exact h
          rw [this]; rfl
        · exact .inr (.inr ⟨h1, by omega⟩)
      · exact .inr (.inl (by omega))
    · rintro e w' ⟨rfl, hB⟩
      exact ⟨_, rfl, Kd.R_nil _ _ _ _ _, hB⟩


end Go.Proofs.Ytehbjcmlicnklaa.P
