-- written for this claim by a patched copy of the kit's printer (tools/pp.py of the same repo) out of the translation; Lean checks it
import Derived.Test.YtdkbohmcklpeeaaPx0
import Derived.Test.YtdkbohmcklpeeaaPx4
namespace Go.Proofs.Ytdkbohmcklpeeaa.P
open Go.RowKit Go.Proofs.YtdkbohmcklpeeaaW.PrintWords Go.Proofs.YtdkbohmcklpeeaaW.PrintLast Go.Proofs.YtdkbohmcklpeeaaW.PrintMore
attribute [local go_sem] max2_int min2_int max_two min_two max_three min_three max_four min_four   -- for this text's walks alone
set_option linter.unusedVariables false
set_option linter.unusedSimpArgs false

/-! ### curfewref03_Both: function 27 (proved by hand) -/

set_option maxHeartbeats 2000000 in
set_option maxRecDepth 100000 in
theorem both_any (A0 : Option Addr) (c0 : Nat) (l0 : List Int) (A1 : Option Addr) (c1 : Nat) (l1 : List Int) (w : World) (hr0 : Kd.C (Kd.int .u8) w A0 l0.length l0) (_hc0 : l0.length ≤ c0) (hr1 : Kd.C (Kd.int .u8) w A1 l1.length l1) (_hc1 : l1.length ≤ c1) (hlen : l0.length + l1.length ≤ 140737488355328) :
    Calls Try.prog 27 #[.slice A0 l0.length c0, .slice A1 l1.length c1] w fun e w' => ∃ v0_ : Value, e = .returned v0_ ∧ Kd.R (Kd.int .u8) 5 w' w.heap.size (fun _ => True) v0_ (l0 ++ l1) ∧ Below w.heap.size w w' := by
  obtain ⟨i0, hi, hz0, hz1, hz2⟩ := info_parts info5'
  have hz2' : i0.bytes * (l0.length + l1.length) ≤ 281474976710656 := by rw [hz2]; omega
  go_enter Try.func27, Try.ntmps27
  go_wp2_with (first
    | (at_make; refine wpList_make_own _ rfl (.const (.int .i64 0)) (.tmp 10) 22 rfl w.heap.size 5 i0 (.int .u8 0) 1 Try.underlying22 hi hz0 hz1 .i64 .i64 _ (l0.length + l1.length) rfl rfl (by omega) hz2' (by simp only [maxLen]; omega) (Nat.le_refl _) ?_; intro w1 hown1 hg1; have hB1 : Below w.heap.size w w1 := (Below.refl _ _).grown hg1 (Nat.le_refl _) (fun k e => by cases e); have hR1 : (Kd.int .u8).R 5 w1 w.heap.size (fun _ => True) (.slice (some ⟨w.heap.size, 0, none⟩) 0 (l0.length + l1.length)) [] := Kd.R_of_own (enc := Value.int .u8) (h1 := fun _ => rfl) (xs := []) hown1 (fun _ _ => trivial))
    | (at_builtin; refine Kd.R_append_rows (Kd.int .u8) (Rr := (Kd.int .u8).K w) (w0 := w) w.heap.size rfl (.tmp 12) (.tmp 13) 22 5 (.int .u8 0) 1 rfl Try.underlying22 info5' rfl (by decide) (by decide) (.slice (some ⟨w.heap.size, 0, none⟩) 0 (l0.length + l1.length)) [] l0 A0 l0.length c0 (fun _ => True) (fun _ => False) rfl rfl hR1 (Kd.C_below hr0 hB1) (fun x cs hk => hk) (fun k hk => hk.elim) (fun _ _ => trivial) hB1 hB1.size (by simp; omega) ?_; intro v2 w2 hR2 hB2 hg2 hat2)
    | (at_builtin; refine Kd.R_append_rows (Kd.int .u8) (Rr := (Kd.int .u8).K w) (w0 := w) w.heap.size rfl (.tmp 14) (.tmp 15) 22 5 (.int .u8 0) 1 rfl Try.underlying22 info5' rfl (by decide) (by decide) v2 ([] ++ l0) l1 A1 l1.length c1 (fun _ => True) (fun _ => False) rfl rfl hR2 (Kd.C_below hr1 hB2) (fun x cs hk => hk) (fun k hk => hk.elim) (fun _ _ => trivial) hB2 hB2.size (by simp; omega) ?_; intro v3 w3 hR3 hB3 hg3 hat3))
  go_ret
  exact ⟨_, rfl, by simpa using hR3, hB3⟩

def curfewref03_Both.f (l0 : List Int) (l1 : List Int) : Option (List Int) := if l0.length + l1.length ≤ 140737488355328 then some (l0 ++ l1) else none
set_option maxHeartbeats 4000000 in
set_option maxRecDepth 100000 in
theorem curfewref03_Both.calls (A0 : Option Addr) (c0 : Nat) (l0 : List Int) (A1 : Option Addr) (c1 : Nat) (l1 : List Int) (r : List Int) (w : World) (hr0 : Kd.C (Kd.int .u8) w A0 l0.length l0) (hc0 : l0.length ≤ c0) (hr1 : Kd.C (Kd.int .u8) w A1 l1.length l1) (hc1 : l1.length ≤ c1) (h : curfewref03_Both.f l0 l1 = some r) :
    Calls Try.prog 27 #[.slice A0 l0.length c0, .slice A1 l1.length c1] w fun e w' => ∃ v0_ : Value, e = .returned (v0_) ∧ Kd.R (Kd.int .u8) 5 w' w.heap.size (fun _ => True) v0_ r ∧ Below w.heap.size w w' := by
  have h : (if l0.length + l1.length ≤ 140737488355328 then some (l0 ++ l1) else none) = some r := h
  by_cases hlen : l0.length + l1.length ≤ 140737488355328
  · rw [if_pos hlen] at h
    obtain rfl := Option.some.inj h
    exact both_any A0 c0 l0 A1 c1 l1 w hr0 hc0 hr1 hc1 hlen
  · rw [if_neg hlen] at h
    cases h


end Go.Proofs.Ytdkbohmcklpeeaa.P
