-- written for this claim by a patched copy of the kit's printer (tools/pp.py of the same repo) out of the translation; Lean checks it
import Derived.Test.YtdkbohmcklpeeaaPx0
import Derived.Test.YtdkbohmcklpeeaaPx4
namespace Go.Proofs.Ytdkbohmcklpeeaa.P
open Go.RowKit Go.Proofs.YtdkbohmcklpeeaaW.PrintWords Go.Proofs.YtdkbohmcklpeeaaW.PrintLast Go.Proofs.YtdkbohmcklpeeaaW.PrintMore
attribute [local go_sem] max2_int min2_int max_two min_two max_three min_three max_four min_four   -- for this text's walks alone
set_option linter.unusedVariables false
set_option linter.unusedSimpArgs false

/-! ### slices_Concat_byte_byte: function 21 (proved by hand) -/

/-- How many bytes the first k rows have. -/
def lens (l : List (List Int)) (k : Nat) : Nat := ((l.take k).map List.length).sum
theorem lens_le (l : List (List Int)) (k : Nat) : lens l k ≤ l.flatten.length := by
  unfold lens
  rw [List.length_flatten]
  conv => rhs; rw [← List.take_append_drop k l, List.map_append, List.sum_append]
  omega
theorem take_succ_L (l : List (List Int)) (k : Nat) (h : k < l.length) : l.take (k + 1) = l.take k ++ [rd_L2 l (k : Int)] := by
  unfold rd_L2
  rw [List.take_add_one, Int.toNat_natCast, List.getElem?_eq_getElem h]
  simp [List.getD_eq_getElem?_getD, h]
theorem lens_succ (l : List (List Int)) (k : Nat) (h : k < l.length) : lens l (k + 1) = lens l k + (rd_L2 l (k : Int)).length := by
  unfold lens
  rw [take_succ_L l k h]
  simp
theorem flat_take_len (l : List (List Int)) (k : Nat) : (l.take k).flatten.length = lens l k := by
  unfold lens; rw [List.length_flatten]
set_option maxHeartbeats 4000000 in
set_option maxRecDepth 100000 in
theorem grow_nil (T : Nat) (hT : T ≤ 140737488355328) (w : World) : Calls Try.prog 29 #[.slice none 0 0, .int .i64 T] w fun e w' => ∃ v0_ : Value, e = .returned v0_ ∧ Kd.R (Kd.int .u8) 5 w' w.heap.size (fun _ => True) v0_ [] ∧ Below w.heap.size w w' := by
  have hn0 : decide ((T : Int) < 0) = false := by simp
  have hR0 : Kd.R (Kd.int .u8) 5 w w.heap.size (fun _ => True) (.slice none 0 0) [] := Kd.R_nil _ _ _ _ _
  by_cases hz : T = 0
  · subst hz
    go_enter Try.func29, Try.ntmps29
    go_wp2
    go_ret
    exact ⟨_, rfl, hR0, Below.refl _ _⟩
  · have hn1 : decide ((T : Int) > 0) = true := by simp; omega
    go_enter Try.func29, Try.ntmps29
    go_wp2_with (first | (at_builtin; refine Kd.R_append_zeros (Kd.int .u8) (w0 := w) w.heap.size rfl (.tmp 20) (.tmp 21) 22 3 5 (.int .u8 0) 1 rfl Try.underlying22 Try.underlying3 info5 rfl (by decide) (by decide) (.slice none 0 0) [] (0 : Int) T (fun _ => True) rfl rfl rfl (fun _ _ => trivial) hR0 (by omega) (Below.refl _ _) (Nat.le_refl _) (by simp; omega) ?_; intro v1 w1 hR1 hB1 hg1 hat1; obtain ⟨Aq, cq, eq⟩ := Kd.R_slice hR1; subst eq))
    go_ret
    have hR2 : Kd.R (Kd.int .u8) 5 w1 w.heap.size (fun _ => True) (.slice Aq 0 cq) [] := by
      have := Kd.R_take hR1 (m := 0) (by omega)
      simpa using this
    exact ⟨_, rfl, hR2, hB1⟩
set_option maxHeartbeats 4000000 in
set_option maxRecDepth 100000 in
theorem concat_any (A0 : Option Addr) (c0 : Nat) (l0 : List (List Int)) (w : World) (hr0 : Kd.C (Kd.slice 5 (Kd.int .u8)) w A0 l0.length l0) (hc0 : l0.length ≤ c0) (hll : l0.length ≤ 9223372036854775806) (hlen : l0.flatten.length ≤ 140737488355328) :
    Calls Try.prog 21 #[.slice A0 l0.length c0] w fun e w' => ∃ v0_ : Value, e = .returned v0_ ∧ Kd.R (Kd.int .u8) 5 w' w.heap.size (fun _ => True) v0_ l0.flatten ∧ Below w.heap.size w w' := by
  go_enter Try.func21, Try.ntmps21
  go_wp2
  go_loopw [3, 11] (fun s i wr => ∃ k z : Nat, k ≤ l0.length ∧ z = lens l0 k ∧ s = .int .i64 z ∧ i = .int .i64 k ∧ w = wr) (fun _ i _ => l0.length - (intOf i).toNat)
  case atStart => exact ⟨0, 0, by omega, rfl, rfl, rfl, rfl⟩
  case round =>
    obtain ⟨k, z, hk, hz, rfl, rfl, rfl⟩ := hrel
    have hle := lens_le l0 k
    by_cases hlt : k < l0.length
    · have hd : decide ((k : Int) < (l0.length : Int)) = true := by simp; omega
      obtain ⟨ad, A1, c1, hA, hcell, hc1, hr1⟩ := at_L2 hr0 (k : Int) (by omega) (by omega)
      subst hA
      rw [Int.toNat_natCast] at hcell
      have hls := lens_succ l0 k hlt
      have hle2 := lens_le l0 (k + 1)
      have hn0 : decide (((z + (rd_L2 l0 (k : Int)).length : Nat) : Int) < 0) = false := decide_eq_false (by omega)
      have hb : z + (rd_L2 l0 (k : Int)).length ≤ 140737488355328 := by omega
      have hzz : z + (rd_L2 l0 (k : Int)).length = lens l0 (k + 1) := by omega
      generalize rd_L2 l0 (k : Int) = x at hcell hc1 hr1 hn0 hb hzz
      clear hls hle2 hle hz
      go_wp2
      go_roundw
      case rel => exact ⟨k + 1, z + x.length, by omega, hzz, by go_num, by go_num, by first | rfl | trivial⟩
      case measure => simp [intOf]; omega
    · obtain rfl : k = l0.length := by omega
      have hd : decide ((l0.length : Int) < (l0.length : Int)) = false := by simp
      have htot : z = l0.flatten.length := by rw [hz, ← flat_take_len, List.take_length]
      have hzb : z ≤ 140737488355328 := by omega
      clear hz hle
      clear hd htot
      go_wp2_with fail
      refine (grow_nil z hzb w).mono ?_
      rintro e w1 ⟨v1, rfl, hR1, hB1⟩
      go_wp2
      go_loopw [6, 27] (fun s i wq => ∃ k : Nat, k ≤ l0.length ∧ i = .int .i64 k ∧ Kd.R (Kd.int .u8) 5 wq w.heap.size (fun _ => True) s (l0.take k).flatten ∧ Below w.heap.size w wq) (fun _ i _ => l0.length - (intOf i).toNat)
      case atStart => exact ⟨0, by omega, rfl, hR1, hB1⟩
      case round =>
        obtain ⟨k, hk, rfl, hR, hB⟩ := hrel
        by_cases hlt : k < l0.length
        · have hd : decide ((k : Int) < (l0.length : Int)) = true := by simp; omega
          obtain ⟨ad, A1, c1, hA, hcell, hc1, hr1⟩ := at_L2 (Kd.C_below hr0 hB) (k : Int) (by omega) (by omega)
          subst hA
          rw [Int.toNat_natCast] at hcell
          have hfl := flat_take_len l0 k
          have hls := lens_succ l0 k hlt
          have hle2 := lens_le l0 (k + 1)
          have hts := take_succ_L l0 k hlt
          have hroom : ((l0.take k).flatten.length + (rd_L2 l0 (k : Int)).length) * 1 ≤ 140737488355328 := by rw [hfl]; omega
          obtain ⟨ys, hys⟩ : ∃ ys, ys = (l0.take k).flatten := ⟨_, rfl⟩
          have hnext : (l0.take (k + 1)).flatten = ys ++ rd_L2 l0 (k : Int) := by rw [hts, hys]; simp
          rw [← hys] at hR hroom
          generalize rd_L2 l0 (k : Int) = x at hcell hc1 hr1 hroom hnext
          obtain ⟨Aq, cq, eq⟩ := Kd.R_slice hR
          subst eq
          clear hls hle2 hfl hts hys
          go_wp2_with (first | (at_builtin; refine Kd.R_append_rows (Kd.int .u8) (Rr := (Kd.int .u8).K wr) (w0 := w) w.heap.size rfl (.tmp 31) (.tmp 32) 22 5 (.int .u8 0) 1 rfl Try.underlying22 info5' rfl (by decide) (by decide) (.slice Aq ys.length cq) ys x A1 x.length c1 (fun _ => True) (fun _ => False) rfl rfl hR hr1 (fun x cs hk => hk) (fun k hk => hk.elim) (fun _ _ => trivial) hB hB.size hroom ?_; intro v2 w2 hR2 hB2 hg2 hat2))
          go_roundw
          case rel => exact ⟨k + 1, by omega, by go_num, by rw [hnext]; exact hR2, hB2⟩
          case measure => simp [intOf]; omega
        · obtain rfl : k = l0.length := by omega
          have hd : decide ((l0.length : Int) < (l0.length : Int)) = false := by simp
          rw [List.take_length] at hR
          go_wp2
          go_ret
          exact ⟨_, rfl, hR, hB⟩
theorem rows3 (w : World) (A0 : Option Addr) (c0 : Nat) (l0 : List Int) (A1 : Option Addr) (c1 : Nat) (l1 : List Int) (A2 : Option Addr) (c2 : Nat) (l2 : List Int) (hr0 : Kd.C (Kd.int .u8) w A0 l0.length l0) (hc0 : l0.length ≤ c0) (hr1 : Kd.C (Kd.int .u8) w A1 l1.length l1) (hc1 : l1.length ≤ c1) (hr2 : Kd.C (Kd.int .u8) w A2 l2.length l2) (hc2 : l2.length ≤ c2) :
    Kd.C (Kd.slice 5 (Kd.int .u8)) (w.alloc (.cells #[.slice A0 l0.length c0, .slice A1 l1.length c1, .slice A2 l2.length c2] 22)) (some ⟨w.heap.size, 0, none⟩) 3 [l0, l1, l2] := by
  have hB := (Below.refl w.heap.size w).alloc (Nat.le_refl _) (.cells #[.slice A0 l0.length c0, .slice A1 l1.length c1, .slice A2 l2.length c2] 22)
  have hn := heap_alloc_new w (.cells #[.slice A0 l0.length c0, .slice A1 l1.length c1, .slice A2 l2.length c2] 22)
  refine ⟨rfl, by decide, fun _ => ⟨_, rfl, fun j p hp => ?_⟩⟩
  have cell : ∀ (v : Value), #[Value.slice A0 l0.length c0, .slice A1 l1.length c1, .slice A2 l2.length c2][j]? = some v → ∀ (i : Nat) (u : Value), [v][i]? = some u → (w.alloc (.cells #[.slice A0 l0.length c0, .slice A1 l1.length c1, .slice A2 l2.length c2] 22)).cell? ((⟨w.heap.size, 0, none⟩ : Addr).add (j * 1 + i)) = some u := by
    intro v hv i u hu
    have hi : i = 0 := by
      rcases Nat.eq_zero_or_pos i with h | h
      · exact h
      · rw [List.getElem?_eq_none (by simp; omega)] at hu
        cases hu
    subst hi
    have := blk_cell hn j
    rw [hv] at this
    simp only [List.getElem?_cons_zero, Option.some.injEq] at hu
    subst hu
    have e : (⟨w.heap.size, 0, none⟩ : Addr).add (j * 1 + 0) = ⟨w.heap.size, j, none⟩ := by unfold Addr.add; simp; omega
    rw [e]
    exact this
  match j, hp with
  | 0, hp => exact ⟨_, rfl, ⟨A0, c0, by cases hp; rfl, by cases hp; exact hc0, by cases hp; exact Kd.C_below hr0 hB⟩, by cases hp; exact cell _ rfl⟩
  | 1, hp => exact ⟨_, rfl, ⟨A1, c1, by cases hp; rfl, by cases hp; exact hc1, by cases hp; exact Kd.C_below hr1 hB⟩, by cases hp; exact cell _ rfl⟩
  | 2, hp => exact ⟨_, rfl, ⟨A2, c2, by cases hp; rfl, by cases hp; exact hc2, by cases hp; exact Kd.C_below hr2 hB⟩, by cases hp; exact cell _ rfl⟩
theorem concat3 (A0 : Option Addr) (c0 : Nat) (l0 : List Int) (A1 : Option Addr) (c1 : Nat) (l1 : List Int) (A2 : Option Addr) (c2 : Nat) (l2 : List Int) (w : World) (hr0 : Kd.C (Kd.int .u8) w A0 l0.length l0) (hc0 : l0.length ≤ c0) (hr1 : Kd.C (Kd.int .u8) w A1 l1.length l1) (hc1 : l1.length ≤ c1) (hr2 : Kd.C (Kd.int .u8) w A2 l2.length l2) (hc2 : l2.length ≤ c2) (hlen : l0.length + l1.length + l2.length ≤ 140737488355328) :
    Calls Try.prog 21 #[.slice (some ⟨w.heap.size, 0, none⟩) 3 3] (w.alloc (.cells #[.slice A0 l0.length c0, .slice A1 l1.length c1, .slice A2 l2.length c2] 22)) fun e w' => ∃ v0_ : Value, e = .returned v0_ ∧ Kd.R (Kd.int .u8) 5 w' w.heap.size (fun _ => True) v0_ (l0 ++ l1 ++ l2) ∧ Below w.heap.size w w' := by
  have hB := (Below.refl w.heap.size w).alloc (Nat.le_refl _) (.cells #[.slice A0 l0.length c0, .slice A1 l1.length c1, .slice A2 l2.length c2] 22)
  refine (concat_any (some ⟨w.heap.size, 0, none⟩) 3 [l0, l1, l2] _ (rows3 w A0 c0 l0 A1 c1 l1 A2 c2 l2 hr0 hc0 hr1 hc1 hr2 hc2) (Nat.le_refl _) (by simp) (by simp; omega)).mono ?_
  rintro e w' ⟨v, rfl, hR, hb⟩
  refine ⟨v, rfl, ?_, below_then hB hB.size hb⟩
  have := Kd.R_lower hR hB.size
  simpa using this

def slices_Concat_byte_byte.f (l0 : List Int) (l1 : List Int) (l2 : List Int) : Option (List Int) := if l0.length + l1.length + l2.length ≤ 140737488355328 then some (l0 ++ l1 ++ l2) else none
set_option maxHeartbeats 4000000 in
set_option maxRecDepth 100000 in
theorem slices_Concat_byte_byte.calls (A0 : Option Addr) (c0 : Nat) (l0 : List Int) (A1 : Option Addr) (c1 : Nat) (l1 : List Int) (A2 : Option Addr) (c2 : Nat) (l2 : List Int) (r : List Int) (w : World) (hr0 : Kd.C (Kd.int .u8) w A0 l0.length l0) (hc0 : l0.length ≤ c0) (hr1 : Kd.C (Kd.int .u8) w A1 l1.length l1) (hc1 : l1.length ≤ c1) (hr2 : Kd.C (Kd.int .u8) w A2 l2.length l2) (hc2 : l2.length ≤ c2) (h : slices_Concat_byte_byte.f l0 l1 l2 = some r) :
    Calls Try.prog 21 #[.slice (some ⟨w.heap.size, 0, none⟩) 3 3] (w.alloc (.cells #[.slice A0 l0.length c0, .slice A1 l1.length c1, .slice A2 l2.length c2] 22)) fun e w' => ∃ v0_ : Value, e = .returned v0_ ∧ Kd.R (Kd.int .u8) 5 w' w.heap.size (fun _ => True) v0_ r ∧ Below w.heap.size w w' := by
  have h : (if l0.length + l1.length + l2.length ≤ 140737488355328 then some (l0 ++ l1 ++ l2) else none) = some r := h
  by_cases hlen : l0.length + l1.length + l2.length ≤ 140737488355328
  · rw [if_pos hlen] at h
    obtain rfl := Option.some.inj h
    exact concat3 A0 c0 l0 A1 c1 l1 A2 c2 l2 w hr0 hc0 hr1 hc1 hr2 hc2 hlen
  · rw [if_neg hlen] at h
    cases h


end Go.Proofs.Ytdkbohmcklpeeaa.P
