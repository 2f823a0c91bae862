-- written for this claim by a patched copy of the kit's printer (tools/pp.py of the same repo) out of the translation; Lean checks it
import Derived.Test.YtehbjcmlicnklaaPx0
import Derived.Test.YtehbjcmlicnklaaPx8
import Derived.Test.YtehbjcmlicnklaaPx9
namespace Go.Proofs.Ytehbjcmlicnklaa.P
open Go.RowKit Go.Proofs.YtehbjcmlicnklaaW.PrintWords Go.Proofs.YtehbjcmlicnklaaW.PrintLast Go.Proofs.YtehbjcmlicnklaaW.PrintMore
attribute [local go_sem] max2_int min2_int max_two min_two max_three min_three max_four min_four   -- for this text's walks alone
set_option linter.unusedVariables false
set_option linter.unusedSimpArgs false

/-! ### session_of: function 29 (proved by hand) -/
open Go.Proofs.Ytehbjcmlicnklaa.Hand
attribute [local irreducible] wpStill

theorem of1_any (a0 a1 a2 c : Int) (A : Option Addr) (n m g : Nat) (w : World) (hc : w.cell? ⟨g, 0, none⟩ = some (.int .i64 c)) (hg : g < w.heap.size) :
    Calls Try.prog 37 #[.agg #[.int .i64 a0, .int .u64 a1, .int .i64 a2, .slice A n m], .pointer (some ⟨g, 0, none⟩)] w fun e w' => e = .returned (.bool (decide (a0 ≥ c))) ∧ Below w.heap.size w w' := by
  go_enter Try.func37, Try.ntmps37
  go_wp2
  go_ret
  exact ⟨rfl, (Below.refl _ _).alloc (Nat.le_refl _) _⟩
/-- None of the first k rows has a client from c on. -/
def NoneTo (c : Int) (l : List S45) (k : Nat) : Prop := ∀ j : Nat, j < k → ¬ c ≤ (rd_T45 l (j : Int)).f0
/-- The first row of a client from c on, or -1. -/
def ixGe (c : Int) : List S45 → Int
  | [] => -1
  | x :: r => if c ≤ x.f0 then 0 else if ixGe c r < 0 then -1 else ixGe c r + 1
theorem ixGe_none (c : Int) (l : List S45) (h : NoneTo c l l.length) : ixGe c l = -1 := by
  induction l with
  | nil => rfl
  | cons x r ih =>
    have h0 : ¬ c ≤ x.f0 := by simpa [rd_T45] using h 0 (by simp)
    have hr := ih (fun j hj => by
      have := h (j + 1) (by simp; omega)
      have e : (((j + 1 : Nat) : Int)).toNat = j + 1 := by omega
      simpa [rd_T45, e] using this)
    simp [ixGe, h0, hr]
theorem ixGe_some (c : Int) (l : List S45) (k : Nat) (hk : k < l.length) (h : NoneTo c l k) (hc : c ≤ (rd_T45 l (k : Int)).f0) : ixGe c l = k := by
  induction l generalizing k with
  | nil => simp at hk
  | cons x r ih =>
    cases k with
    | zero =>
      have : c ≤ x.f0 := by simpa [rd_T45] using hc
      simp [ixGe, this]
    | succ k =>
      have h0 : ¬ c ≤ x.f0 := by simpa [rd_T45] using h 0 (by simp)
      have e : ∀ j : Nat, (((j + 1 : Nat) : Int)).toNat = j + 1 := by intro j; omega
      have hr := ih k (by simpa using hk) (fun j hj => by
        have := h (j + 1) (by omega)
        simpa [rd_T45, e] using this) (by simpa [rd_T45, e] using hc)
      simp [ixGe, h0, hr]
      omega
set_option maxHeartbeats 2000000 in
set_option maxRecDepth 100000 in
theorem indexGe_any (A0 : Option Addr) (c0 : Nat) (l0 : List S45) (c : Int) (g : Nat) (w : World) (hr0 : Kd.C k45 w A0 l0.length l0) (hc0 : l0.length ≤ c0) (hll : l0.length ≤ 9223372036854775806) (hc : w.cell? ⟨g, 0, none⟩ = some (.int .i64 c)) (hg : g < w.heap.size) :
    Calls Try.prog 36 #[.slice A0 l0.length c0, .func (.func 37) #[] #[.pointer (some ⟨g, 0, none⟩)]] w fun e w' => e = .returned (.int .i64 (ixGe c l0)) ∧ Below w.heap.size w w' := by
  have HC := Lib.hid hc
  clear hc
  go_enter Try.func36, Try.ntmps36
  go_wp2
  go_loopw [8] (fun i wr => ∃ k : Nat, k ≤ l0.length ∧ i = .int .i64 k ∧ Below w.heap.size w wr ∧ NoneTo c l0 k) (fun i _ => l0.length - (intOf i).toNat)
  case atStart => exact ⟨0, by omega, rfl, Below.refl _ _, fun j hj => absurd hj (by omega)⟩
  case round =>
    obtain ⟨k, hk, rfl, hB, hN⟩ := hrel
    by_cases hlt : k < l0.length
    · have hd : decide ((k : Int) < (l0.length : Int)) = true := by simp; omega
      obtain ⟨ad, A3, c3, hA, h1, h2, h3, h4, hc3, hr3⟩ := at_T45 (Kd.C_below hr0 hB) (k : Int) (by omega) (by omega)
      subst hA
      rw [Int.toNat_natCast] at h1 h2 h3 h4
      have hcw : wr.cell? ⟨g, 0, none⟩ = some (.int .i64 c) := by rw [hB.cell (p := ⟨g, 0, none⟩) hg]; exact HC.out
      have hgw : g < wr.heap.size := Nat.lt_of_lt_of_le hg hB.size
      go_wp2_with fail
      refine (of1_any _ _ _ c _ _ _ g _ hcw hgw).mono ?_
      rintro e w1 ⟨rfl, hB1⟩
      have hB2 := below_step hB hB1
      clear hcw h1 h2 h3 h4
      by_cases hge : c ≤ (rd_T45 l0 (k : Int)).f0
      · have hdd : decide ((rd_T45 l0 (k : Int)).f0 ≥ c) = true := by simpa using hge
        go_wp2
        go_ret
        exact ⟨by rw [ixGe_some c l0 k hlt hN hge]; rfl, hB2⟩
      · have hdd : decide ((rd_T45 l0 (k : Int)).f0 ≥ c) = false := by simpa using hge
        go_wp2
        go_roundw
        case rel => exact ⟨k + 1, by omega, by go_num, hB2, fun j hj => by
          rcases Nat.lt_or_ge j k with h | h
          · exact hN j h
          · obtain rfl : j = k := by omega
            exact fun h => by omega⟩
        case measure => simp [intOf]; omega
    · obtain rfl : k = l0.length := by omega
      have hd : decide ((l0.length : Int) < (l0.length : Int)) = false := by simp
      go_wp2
      go_ret
      exact ⟨by rw [ixGe_none c l0 hN]; rfl, hB⟩
/-- The place of the first row of a client from c on, or behind all. -/
def atGe (c : Int) : List S45 → Nat
  | [] => 0
  | x :: r => if c ≤ x.f0 then 0 else atGe c r + 1
theorem atGe_le (c : Int) (l : List S45) : atGe c l ≤ l.length := by
  induction l with
  | nil => simp [atGe]
  | cons x r ih => simp only [atGe, List.length_cons]; split <;> omega
theorem ixGe_eq (c : Int) (l : List S45) : ixGe c l = if atGe c l < l.length then (atGe c l : Int) else -1 := by
  induction l with
  | nil => simp [ixGe, atGe]
  | cons x r ih =>
    have := atGe_le c r
    simp only [ixGe, atGe, List.length_cons]
    by_cases h : c ≤ x.f0
    · simp [h]
    · simp only [h, if_false]
      rw [ih]
      by_cases hl : atGe c r < r.length
      · rw [if_pos hl, if_neg (by omega), if_pos (by omega)]; omega
      · rw [if_neg hl, if_pos (by omega), if_neg (by omega)]
theorem atGe_ge (c : Int) (l : List S45) (h : atGe c l < l.length) : c ≤ (rd_T45 l (atGe c l : Int)).f0 := by
  induction l with
  | nil => simp at h
  | cons x r ih =>
    simp only [atGe] at h ⊢
    split
    · rename_i hx; simpa [rd_T45] using hx
    · rename_i hx
      simp only [hx, if_false, List.length_cons] at h
      have e : ((atGe c r + 1 : Nat) : Int).toNat = atGe c r + 1 := by omega
      have := ih (by omega)
      simp only [rd_T45, Int.toNat_natCast] at this
      simpa [rd_T45, e] using this
set_option maxHeartbeats 4000000 in
set_option maxRecDepth 100000 in
theorem of_there (A0 : Option Addr) (c0 : Nat) (l0 : List S45) (c : Int) (w : World) (hr0 : Kd.C k45 w A0 l0.length l0) (hc0 : l0.length ≤ c0) (hll : l0.length ≤ 9223372036854775806)
    (hlt : atGe c l0 < l0.length) (heq : ((rd_T45 l0 (atGe c l0 : Int)).f0 == c) = true) (hn : (rd_T45 l0 (atGe c l0 : Int)).f2.f1.length * 4 ≤ 140737488355328) :
    Calls Try.prog 29 #[.agg #[.slice A0 l0.length c0], .int .i64 c] w fun e w' => ∃ v : Value, e = .returned (.agg #[.int .i64 (rd_T45 l0 (atGe c l0 : Int)).f0, .int .u64 (rd_T45 l0 (atGe c l0 : Int)).f1, .int .i64 (rd_T45 l0 (atGe c l0 : Int)).f2.f0, v, .int .i64 (atGe c l0 : Int), .bool true]) ∧ Kd.R (Kd.int .u32) 59 w' w.heap.size (fun _ => True) v (rd_T45 l0 (atGe c l0 : Int)).f2.f1 ∧ Below w.heap.size w w' := by
  have hix := ixGe_eq c l0
  rw [if_pos hlt] at hix
  have HI := Lib.hid hix
  have HE := Lib.hid heq
  have HB0 := Below.refl w.heap.size w
  clear hix heq
  go_enter Try.func29, Try.ntmps29
  go_wp2_with fail
  refine (indexGe_any A0 c0 l0 c (w.heap.size + 1) _ ?_ hc0 hll ?_ ?_).mono ?_
  · exact Kd.C_below hr0 (by repeat (first | exact HB0 | refine below_alloc ?_ _))
  · go_simp
  · simp
  rintro e w1 ⟨rfl, hB1⟩
  have hB2 : Below w.heap.size w w1 := below_step (by repeat (first | exact HB0 | refine below_alloc ?_ _)) hB1
  have hz : w.heap.size + 3 ≤ w1.heap.size := by have := hB1.size; simp at this; omega
  obtain ⟨hcl, hfr⟩ := bcell hB1
  simp only [World.size_alloc] at hcl hfr
  rw [HI.out]
  have hd0 : decide ((atGe c l0 : Int) < 0) = false := by simp
  have hlt' : decide (atGe c l0 < l0.length) = true := by simpa using hlt
  clear HI
  clear hB1
  obtain ⟨ad, A3, c3, hA, h1, h2, h3, h4, hc3, hr3⟩ := at_T45 (Kd.C_below hr0 hB2) (atGe c l0 : Int) (by omega) (by omega)
  subst hA
  rw [Int.toNat_natCast] at h1 h2 h3 h4
  have hbl := block_lt_of_cell h1
  have hz1 : w.heap.size < w1.heap.size := by omega
  have hz2 : w.heap.size + 1 < w1.heap.size := by omega
  go_wp2
  refine wp_region_still_tail 15 (by kernel_rfl) (by kernel_rfl) ?_
  simp only [List.take_succ_cons, List.take_zero, List.drop_succ_cons, List.drop_zero]
  change wpStill Try.prog _ (World.drew (w1.alloc _)) _ _ _
  repeat still_step
  refine wpStill_nil ?_
  change wpList _ _ _ _ _ (World.drew (w1.alloc _))
  rw [HE.out]
  have HT := Lib.hid hc3
  clear hc3
  go_wp2_with fail
  refine (session_own.calls _ _ _ A3 c3 _ _ _ _ _ _ (Kd.C_drew (Kd.C_alloc hr3 _)) HT.out (by unfold session_own.f slices_Clone_uint32_uint32.f; rw [if_pos hn]; rfl)).mono ?_
  rintro e w2 ⟨v, rfl, hR, hB3⟩
  obtain ⟨Aq, cq, eq⟩ := Kd.R_slice hR
  subst eq
  have hB4 : Below w.heap.size w w2 := below_step (by repeat (first | exact hB2 | refine below_alloc ?_ _ | refine below_drew1 ?_)) hB3
  obtain ⟨hcl2, hfr2⟩ := bcell hB3
  simp only [World.size_drew, World.size_alloc] at hcl2 hfr2
  have hz3 : w.heap.size + 1 + 1 < w1.heap.size := by omega
  have hz1' : w.heap.size < w1.heap.size + 1 := by omega
  have hz2' : w.heap.size + 1 < w1.heap.size + 1 := by omega
  have hz3' : w.heap.size + 1 + 1 < w1.heap.size + 1 := by omega
  clear h1 h2 h3 h4 hr3
  go_wp2
  refine bodyPost_ret (v := .agg #[.int .i64 (rd_T45 l0 (atGe c l0 : Int)).f0, .int .u64 (rd_T45 l0 (atGe c l0 : Int)).f1, .int .i64 (rd_T45 l0 (atGe c l0 : Int)).f2.f0, .slice Aq (rd_T45 l0 (atGe c l0 : Int)).f2.f1.length cq, .int .i64 (atGe c l0 : Int), .bool true]) (by simp [results, Try.results29, go_sem, hcl, hfr, hcl2, hfr2, hz1, hz2, hz3, hz1', hz2', hz3']) rfl ⟨_, rfl, ?_, ?_⟩
  · refine Kd.R_lower (base := w1.heap.size + 1) ?_ (by omega)
    repeat (refine R_setlow ?_ (by first | (simp; done) | (simp; omega)) _)
    simpa only [World.size_drew, World.size_alloc] using hR
  · repeat (refine Below.setCell ?_ (by first | (simp; done) | (simp; omega)) _)
    exact hB4
set_option maxHeartbeats 4000000 in
set_option maxRecDepth 100000 in
theorem of_other (A0 : Option Addr) (c0 : Nat) (l0 : List S45) (c : Int) (w : World) (hr0 : Kd.C k45 w A0 l0.length l0) (hc0 : l0.length ≤ c0) (hll : l0.length ≤ 9223372036854775806)
    (hlt : atGe c l0 < l0.length) (heq : ((rd_T45 l0 (atGe c l0 : Int)).f0 == c) = false) :
    Calls Try.prog 29 #[.agg #[.slice A0 l0.length c0], .int .i64 c] w fun e w' => e = .returned (.agg #[.int .i64 c, .int .u64 0, .int .i64 0, .slice none 0 0, .int .i64 (atGe c l0 : Int), .bool false]) ∧ Below w.heap.size w w' := by
  have hix := ixGe_eq c l0
  rw [if_pos hlt] at hix
  have HI := Lib.hid hix
  have HE := Lib.hid heq
  have HB0 := Below.refl w.heap.size w
  clear hix heq
  go_enter Try.func29, Try.ntmps29
  go_wp2_with fail
  refine (indexGe_any A0 c0 l0 c (w.heap.size + 1) _ ?_ hc0 hll ?_ ?_).mono ?_
  · exact Kd.C_below hr0 (by repeat (first | exact HB0 | refine below_alloc ?_ _))
  · go_simp
  · simp
  rintro e w1 ⟨rfl, hB1⟩
  have hB2 : Below w.heap.size w w1 := below_step (by repeat (first | exact HB0 | refine below_alloc ?_ _)) hB1
  have hz : w.heap.size + 3 ≤ w1.heap.size := by have := hB1.size; simp at this; omega
  obtain ⟨hcl, hfr⟩ := bcell hB1
  simp only [World.size_alloc] at hcl hfr
  rw [HI.out]
  have hd0 : decide ((atGe c l0 : Int) < 0) = false := by simp
  have hlt' : decide (atGe c l0 < l0.length) = true := by simpa using hlt
  clear HI
  clear hB1
  obtain ⟨ad, A3, c3, hA, h1, h2, h3, h4, hc3, hr3⟩ := at_T45 (Kd.C_below hr0 hB2) (atGe c l0 : Int) (by omega) (by omega)
  subst hA
  rw [Int.toNat_natCast] at h1 h2 h3 h4
  have hbl := block_lt_of_cell h1
  have hz1 : w.heap.size < w1.heap.size := by omega
  have hz2 : w.heap.size + 1 < w1.heap.size := by omega
  have hz3 : w.heap.size + 1 + 1 < w1.heap.size := by omega
  clear hc3 hr3
  go_wp2
  refine wp_region_still_tail 15 (by kernel_rfl) (by kernel_rfl) ?_
  simp only [List.take_succ_cons, List.take_zero, List.drop_succ_cons, List.drop_zero]
  change wpStill Try.prog _ (World.drew (w1.alloc _)) _ _ _
  repeat still_step
  refine wpStill_nil ?_
  change wpList _ _ _ _ _ (World.drew (w1.alloc _))
  rw [HE.out]
  go_wp2
  refine bodyPost_ret (v := .agg #[.int .i64 c, .int .u64 0, .int .i64 0, .slice none 0 0, .int .i64 (atGe c l0 : Int), .bool false]) (by simp [results, Try.results29, go_sem, hcl, hfr, hz1, hz2, hz3]) rfl ⟨rfl, ?_⟩
  repeat (with_reducible first | exact hB2 | refine below_alloc ?_ _ | refine below_drew1 ?_ | refine Below.setCell ?_ (by first | (simp; done) | (simp; omega)) _)
set_option maxHeartbeats 4000000 in
set_option maxRecDepth 100000 in
theorem of_behind (A0 : Option Addr) (c0 : Nat) (l0 : List S45) (c : Int) (w : World) (hr0 : Kd.C k45 w A0 l0.length l0) (hc0 : l0.length ≤ c0) (hll : l0.length ≤ 9223372036854775806)
    (hlt : ¬ atGe c l0 < l0.length) :
    Calls Try.prog 29 #[.agg #[.slice A0 l0.length c0], .int .i64 c] w fun e w' => e = .returned (.agg #[.int .i64 c, .int .u64 0, .int .i64 0, .slice none 0 0, .int .i64 (l0.length : Int), .bool false]) ∧ Below w.heap.size w w' := by
  have hix := ixGe_eq c l0
  rw [if_neg hlt] at hix
  have HI := Lib.hid hix
  have HB0 := Below.refl w.heap.size w
  clear hix
  go_enter Try.func29, Try.ntmps29
  go_wp2_with fail
  refine (indexGe_any A0 c0 l0 c (w.heap.size + 1) _ ?_ hc0 hll ?_ ?_).mono ?_
  · exact Kd.C_below hr0 (by repeat (first | exact HB0 | refine below_alloc ?_ _))
  · go_simp
  · simp
  rintro e w1 ⟨rfl, hB1⟩
  have hB2 : Below w.heap.size w w1 := below_step (by repeat (first | exact HB0 | refine below_alloc ?_ _)) hB1
  have hz : w.heap.size + 3 ≤ w1.heap.size := by have := hB1.size; simp at this; omega
  obtain ⟨hcl, hfr⟩ := bcell hB1
  simp only [World.size_alloc] at hcl hfr
  rw [HI.out]
  have hd1 : decide (l0.length < l0.length) = false := by simp
  clear HI
  clear hB1
  have hz1 : w.heap.size < w1.heap.size := by omega
  have hz2 : w.heap.size + 1 < w1.heap.size := by omega
  have hz3 : w.heap.size + 1 + 1 < w1.heap.size := by omega
  go_wp2
  refine wp_region_still_tail 15 (by kernel_rfl) (by kernel_rfl) ?_
  simp only [List.take_succ_cons, List.take_zero, List.drop_succ_cons, List.drop_zero]
  change wpStill Try.prog _ (World.drew (w1.alloc _)) _ _ _
  repeat still_step
  refine wpStill_nil ?_
  change wpList _ _ _ _ _ (World.drew (w1.alloc _))
  go_wp2
  refine bodyPost_ret (v := .agg #[.int .i64 c, .int .u64 0, .int .i64 0, .slice none 0 0, .int .i64 (l0.length : Int), .bool false]) (by simp [results, Try.results29, go_sem, hcl, hfr, hz1, hz2, hz3]) rfl ⟨rfl, ?_⟩
  repeat (with_reducible first | exact hB2 | refine below_alloc ?_ _ | refine below_drew1 ?_ | refine Below.setCell ?_ (by first | (simp; done) | (simp; omega)) _)

def ofF (l : List S45) (c : Int) : Option (Int × Int × Int × List Int × Int × Bool) :=
  if l.length ≤ 9223372036854775806 then
    if atGe c l < l.length ∧ (rd_T45 l (atGe c l : Int)).f0 = c then
      if (rd_T45 l (atGe c l : Int)).f2.f1.length * 4 ≤ 140737488355328 then some (c, (rd_T45 l (atGe c l : Int)).f1, (rd_T45 l (atGe c l : Int)).f2.f0, (rd_T45 l (atGe c l : Int)).f2.f1, (atGe c l : Int), true) else none
    else some (c, 0, 0, [], (atGe c l : Int), false)
  else none
def session_of.f (l0_0 : List (S45)) (a1 : Int) : Option (Int × Int × Int × List Int × Int × Bool) := ofF l0_0 a1
set_option maxHeartbeats 4000000 in
set_option maxRecDepth 100000 in
theorem session_of.calls (A0_0 : Option Addr) (c0_0 : Nat) (l0_0 : List (S45)) (a1 : Int) (r1 : Int) (r2 : Int) (r3 : Int) (r4 : List Int) (r5 : Int) (r6 : Bool) (w : World) (hr0_0 : Kd.C k45 w A0_0 l0_0.length l0_0) (hc0_0 : l0_0.length ≤ c0_0) (h : session_of.f l0_0 a1 = some (r1, r2, r3, r4, r5, r6)) :
    Calls Try.prog 29 #[.agg #[.slice A0_0 l0_0.length c0_0], .int .i64 a1] w fun e w' => ∃ v3_ : Value, e = .returned (.agg #[.int .i64 r1, .int .u64 r2, .int .i64 r3, v3_, .int .i64 r5, .bool r6]) ∧ Kd.R (Kd.int .u32) 59 w' w.heap.size (fun _ => True) v3_ r4 ∧ Below w.heap.size w w' := by
  have h : ofF l0_0 a1 = some (r1, r2, r3, r4, r5, r6) := h
  unfold ofF at h
  by_cases hl : l0_0.length ≤ 9223372036854775806
  · rw [if_pos hl] at h
    by_cases hc : atGe a1 l0_0 < l0_0.length ∧ (rd_T45 l0_0 (atGe a1 l0_0 : Int)).f0 = a1
    · rw [if_pos hc] at h
      by_cases hn : (rd_T45 l0_0 (atGe a1 l0_0 : Int)).f2.f1.length * 4 ≤ 140737488355328
      · rw [if_pos hn] at h
        simp only [Option.some.injEq, Prod.mk.injEq] at h
        obtain ⟨rfl, rfl, rfl, rfl, rfl, rfl⟩ := h
        refine (of_there A0_0 c0_0 l0_0 a1 w hr0_0 hc0_0 hl hc.1 (beq_iff_eq.2 hc.2) hn).mono ?_
        rintro e w' ⟨v, he, hR, hB⟩
        rw [hc.2] at he
        exact ⟨v, he, hR, hB⟩
      · rw [if_neg hn] at h
        cases h
    · rw [if_neg hc] at h
      simp only [Option.some.injEq, Prod.mk.injEq] at h
      obtain ⟨rfl, rfl, rfl, rfl, rfl, rfl⟩ := h
      by_cases hlt : atGe a1 l0_0 < l0_0.length
      · refine (of_other A0_0 c0_0 l0_0 a1 w hr0_0 hc0_0 hl hlt (beq_eq_false_iff_ne.2 (fun e => hc ⟨hlt, e⟩))).mono ?_
        rintro e w' ⟨he, hB⟩
        exact ⟨_, he, Kd.R_nil _ _ _ _ _, hB⟩
      · have he_ : atGe a1 l0_0 = l0_0.length := by have := atGe_le a1 l0_0; omega
        refine (of_behind A0_0 c0_0 l0_0 a1 w hr0_0 hc0_0 hl hlt).mono ?_
        rintro e w' ⟨he, hB⟩
        rw [he_]
        exact ⟨_, he, Kd.R_nil _ _ _ _ _, hB⟩
  · rw [if_neg hl] at h
    cases h


end Go.Proofs.Ytehbjcmlicnklaa.P
